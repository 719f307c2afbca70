/-
  The walk of SteamHeats: it returns true for any two streams and any number, and leaves what lay as it lay.
-/
import Derived.Test.YtenpbiineblcjaaLWithin
namespace Go.Proofs.Ytenpbiineblcjaa
open Go.RowKit Go.Shelf

theorem heated_is (M H S G k : Int) (a : StrT) (ea : Int) (h : heatR ⟨M, H, S, G⟩ k = (a, ea)) (w : World) :
    Calls Try.prog 44 #[.agg #[.int .i64 M, .int .i64 H, .int .i64 S, .int .i64 G], .int .i64 k] w fun e w' => e = .returned (.tuple #[.agg #[.int .i64 a.M, .int .i64 a.H, .int .i64 a.S, .int .i64 a.G], .int .i64 ea]) ∧ ∃ o1 o2 o3, ((w.alloc o1).alloc o2).alloc o3 = w' := by
  have := heated_any ⟨M, H, S, G⟩ k w
  rw [h] at this
  exact this
theorem exchange_is (M H S G M' H' S' G' k b1 b2 b3 b4 c1 c2 c3 c4 eb : Int) (h : exR ⟨M, H, S, G⟩ ⟨M', H', S', G'⟩ k = (⟨b1, b2, b3, b4⟩, ⟨c1, c2, c3, c4⟩, eb)) (w : World) :
    Calls Try.prog 45 #[.agg #[.int .i64 M, .int .i64 H, .int .i64 S, .int .i64 G], .agg #[.int .i64 M', .int .i64 H', .int .i64 S', .int .i64 G'], .int .i64 k] w fun e w' => e = .returned (.tuple #[.agg #[.int .i64 b1, .int .i64 b2, .int .i64 b3, .int .i64 b4], .agg #[.int .i64 c1, .int .i64 c2, .int .i64 c3, .int .i64 c4], .int .i64 eb]) ∧ Below w.heap.size w w' := by
  refine (exchange_ex ⟨M, H, S, G⟩ ⟨M', H', S', G'⟩ k w).mono ?_
  rintro e w' ⟨he, hw⟩
  rw [h] at he
  exact ⟨he, hw.below⟩
theorem rightStr_sym (M H S G : Int) (w : World) :
    Calls Try.prog 24 #[.agg #[.int .i64 M, .int .i64 H, .int .i64 S, .int .i64 G]] w fun e w' => e = .returned (.bool (strOk ⟨M, H, S, G⟩)) ∧ ∃ o, w.alloc o = w' :=
  rightStr_any ⟨M, H, S, G⟩ w


set_option maxRecDepth 100000 in
set_option maxHeartbeats 12800000 in
theorem heats1 (M H S G M' H' S' G' k a1 a2 a3 a4 ea b1 b2 b3 b4 c1 c2 c3 c4 eb : Int) (HH : Hid (heatR ⟨M, H, S, G⟩ k = (⟨a1, a2, a3, a4⟩, ea))) (HE : Hid (exR ⟨M, H, S, G⟩ ⟨M', H', S', G'⟩ k = (⟨b1, b2, b3, b4⟩, ⟨c1, c2, c3, c4⟩, eb))) (hs : strOk ⟨M, H, S, G⟩ = false) (za : a1 = 0 ∧ a2 = 0 ∧ a3 = 0 ∧ a4 = 0) (zb : (b1 = 0 ∧ b2 = 0 ∧ b3 = 0 ∧ b4 = 0) ∧ c1 = 0 ∧ c2 = 0 ∧ c3 = 0 ∧ c4 = 0) (ea' : ea = 1) (eb' : eb = 1) (w : World) :
    Calls Try.prog 11 #[.agg #[.int .i64 M, .int .i64 H, .int .i64 S, .int .i64 G], .agg #[.int .i64 M', .int .i64 H', .int .i64 S', .int .i64 G'], .int .i64 k] w fun e w' => e = .returned (.bool true) ∧ Below w.heap.size w w' := by
  have HK : Hid (kUp w w) := hide (Below.refl _ _)
  obtain ⟨rfl, rfl, rfl, rfl⟩ := za
  obtain ⟨⟨rfl, rfl, rfl, rfl⟩, rfl, rfl, rfl, rfl⟩ := zb
  subst ea' eb'
  go_enter Try.func11, Try.ntmps11
  go_upto_region 2 with (first | (go_at_call 26; refine (mkStr_is _ _ _ _ _).mono ?_; rintro e w1 ⟨rfl, o1, o2, rfl⟩) | (go_at_call 44; refine (heated_is _ _ _ _ _ _ _ (unhide HH) _).mono ?_; rintro e w2 ⟨rfl, o3, o4, o5, rfl⟩))
  refine know_here (by (repeat (first | exact kk (unhide HK) | apply kkbox | apply kkdrew | apply kkdrewN | apply kkalloc))) ?_
  intro V2 hKA
  (try simp only [World.size_alloc] at hKA)
  (try simp only [World.size_drew] at hKA)
  have HKA := hide hKA
  have HCA := ktells hKA
  (try dsimp only at HCA)
  refine Gen.begin_ [⟨10, 9, #[.int .i64 0, .int .i64 0, .int .i64 0, .int .i64 0], 42⟩, ⟨11, 10, #[.int .i64 0, .int .i64 0, .int .i64 0, .int .i64 0], 42⟩] 13 (by kernel_rfl) hKA (by rfl) ⟨fun x hx => by (simp only [List.mem_cons, List.not_mem_nil, or_false] at hx; rcases hx with rfl | rfl; all_goals exact ⟨_, by rfl, by rfl, by rfl, fun _ _ => by kernel_rfl⟩), by kernel_rfl, fun _ _ _ _ _ => Iff.rfl⟩ (fun okA => ?_)
  clear hKA
  refine Gen.take 0 (v := ?vv1) okA (by simp only [List.getElem?_toArray, List.getElem?_cons_zero]; rfl) (by kernel_rfl) (by kernel_rfl) (by kernel_rfl) (Or.inl ⟨by rfl, ?hh1⟩) ?_
  case hh1 => (intro wg hSw; have hc := ktells hSw; (try dsimp only at hc); go_simp; try with_reducible rfl)
  (try simp only [Act.put, List.setIfInBounds_toArray, List.set_cons_zero, List.set_cons_succ])
  refine Gen.take 2 (v := ?vv2) okA (by simp only [List.getElem?_toArray, List.getElem?_cons_zero, List.getElem?_cons_succ]; rfl) (by kernel_rfl) (by kernel_rfl) (by kernel_rfl) (Or.inl ⟨by rfl, ?hh2⟩) ?_
  case hh2 => (intro wg hSw; have hc := ktells hSw; (try dsimp only at hc); go_simp; try with_reducible rfl)
  (try simp only [Act.put, List.setIfInBounds_toArray, List.set_cons_zero, List.set_cons_succ])
  refine Gen.take 4 (v := ?vv3) okA (by simp only [List.getElem?_toArray, List.getElem?_cons_zero, List.getElem?_cons_succ]; rfl) (by kernel_rfl) (by kernel_rfl) (by kernel_rfl) (Or.inl ⟨by rfl, ?hh3⟩) ?_
  case hh3 => (intro wg hSw; have hc := ktells hSw; (try dsimp only at hc); go_simp; try with_reducible rfl)
  (try simp only [Act.put, List.setIfInBounds_toArray, List.set_cons_zero, List.set_cons_succ])
  refine Gen.step inferInstance Gen.size 1 okA (by kernel_rfl) inferInstance (by simp) (fun wg hKg hSg => wpOp_of (by simp only [List.getElem?_toArray, List.getElem?_cons_zero, List.getElem?_cons_succ]; rfl) (by rfl) ?_)
  go_simp
  refine (mkStr_is _ _ _ _ _).mono ?_
  rintro e wh ⟨rfl, o1, o2, rfl⟩
  (try dsimp only)
  refine Gen.stay rfl hKg (by (repeat (first | exact Below.refl _ _ | refine Below.allocs ?_ _ | refine Below.drew ?_ | refine Below.drewNs ?_ _))) ?_
  clear hKg hSg
  refine Gen.step inferInstance Gen.size 3 okA (by kernel_rfl) inferInstance (by simp) (fun wg hKg hSg => wpOp_of (by simp only [List.getElem?_toArray, List.getElem?_cons_zero, List.getElem?_cons_succ]; rfl) (by rfl) ?_)
  go_simp
  refine (mkStr_is _ _ _ _ _).mono ?_
  rintro e wh ⟨rfl, o1, o2, rfl⟩
  (try dsimp only)
  refine Gen.stay rfl hKg (by (repeat (first | exact Below.refl _ _ | refine Below.allocs ?_ _ | refine Below.drew ?_ | refine Below.drewNs ?_ _))) ?_
  clear hKg hSg
  refine Gen.step inferInstance Gen.size 5 okA (by kernel_rfl) inferInstance (by simp) (fun wg hKg hSg => wpOp_of (by simp only [List.getElem?_toArray, List.getElem?_cons_zero, List.getElem?_cons_succ]; rfl) (by rfl) ?_)
  go_simp
  refine (exchange_is _ _ _ _ _ _ _ _ _ _ _ _ _ _ _ _ _ _ (unhide HE) _).mono ?_
  rintro e wh ⟨rfl, hb1⟩
  (try dsimp only)
  refine Gen.stay rfl hKg hb1 ?_
  clear hKg hSg
  clear hb1
  refine Gen.take 6 (v := ?vv4) okA (by simp only [List.getElem?_toArray, List.getElem?_cons_zero, List.getElem?_cons_succ]; rfl) (by kernel_rfl) (by kernel_rfl) (by kernel_rfl) (Or.inl ⟨by rfl, ?hh4⟩) ?_
  case hh4 => (intro wg hSw; have hc := ktells hSw; (try dsimp only at hc); go_simp; try with_reducible rfl)
  (try simp only [Act.put, List.setIfInBounds_toArray, List.set_cons_zero, List.set_cons_succ])
  refine Gen.take 7 (v := ?vv5) okA (by simp only [List.getElem?_toArray, List.getElem?_cons_zero, List.getElem?_cons_succ]; rfl) (by kernel_rfl) (by kernel_rfl) (by kernel_rfl) (Or.inl ⟨by rfl, ?hh5⟩) ?_
  case hh5 => (intro wg hSw; have hc := ktells hSw; (try dsimp only at hc); go_simp; try with_reducible rfl)
  (try simp only [Act.put, List.setIfInBounds_toArray, List.set_cons_zero, List.set_cons_succ])
  refine Gen.take 8 (v := ?vv6) okA (by simp only [List.getElem?_toArray, List.getElem?_cons_zero, List.getElem?_cons_succ]; rfl) (by kernel_rfl) (by kernel_rfl) (by kernel_rfl) (Or.inl ⟨by rfl, ?hh6⟩) ?_
  case hh6 => (intro wg hSw; have hc := ktells hSw; (try dsimp only at hc); go_simp; try with_reducible rfl)
  (try simp only [Act.put, List.setIfInBounds_toArray, List.set_cons_zero, List.set_cons_succ])
  refine Gen.take 9 (v := ?vv7) okA (by simp only [List.getElem?_toArray, List.getElem?_cons_zero, List.getElem?_cons_succ]; rfl) (by kernel_rfl) (by kernel_rfl) (by kernel_rfl) (Or.inl ⟨by rfl, ?hh7⟩) ?_
  case hh7 => (intro wg hSw; have hc := ktells hSw; (try dsimp only at hc); go_simp; try with_reducible rfl)
  (try simp only [Act.put, List.setIfInBounds_toArray, List.set_cons_zero, List.set_cons_succ])
  refine Gen.finish inferInstance Gen.size okA (by kernel_rfl) inferInstance (by simp) ?_
  simp only [Gen.Fin, NewVar.put]
  (try simp only [Act.put, List.setIfInBounds_toArray, List.set_cons_zero, List.set_cons_succ])
  intro BA10 hnA10 BA11 hnA11 wf hKf hSf
  obtain ⟨wu, rfl, hg10, hg11, hup⟩ := graft2 (fun W => Below V2.heap.size V2 W) hKf.2.1.1 hKf.1.1 hSf.1
  have hz10 := hKf.2.1.2
  have hz11 := hKf.1.2
  have hne10_11 : BA10 ≠ BA11 := fun e => hnA11 (by simp [e])
  have hne11_10 : BA11 ≠ BA10 := fun e => hne10_11 e.symm
  clear hKf hSf
  refine Gen.one 12 (by kernel_rfl) (wpOp_of (by simp only [List.getElem?_toArray, List.getElem?_cons_zero, List.getElem?_cons_succ]; rfl) (by rfl) ?_)
  go_simp
  (try simp only [Act.put, List.setIfInBounds_toArray, List.set_cons_zero, List.set_cons_succ])
  refine ⟨⟨(belowRow (belowRow hup hz10 _) hz11 _), kafter (unhide HKA) (belowRow (belowRow hup hz10 _) hz11 _)⟩, ?_⟩
  refine Gen.one 13 (by kernel_rfl) (wpOp_of (by simp only [List.getElem?_toArray, List.getElem?_cons_zero, List.getElem?_cons_succ]; rfl) (by rfl) ?_)
  go_simp
  (try simp only [Act.put, List.setIfInBounds_toArray, List.set_cons_zero, List.set_cons_succ])
  refine ⟨⟨(belowRow (belowRow hup hz10 _) hz11 _), kafter (unhide HKA) (belowRow (belowRow hup hz10 _) hz11 _)⟩, ?_⟩
  refine Gen.one 14 (by kernel_rfl) (wpOp_of (by simp only [List.getElem?_toArray, List.getElem?_cons_zero, List.getElem?_cons_succ]; rfl) (by rfl) ?_)
  go_simp
  (try simp only [Act.put, List.setIfInBounds_toArray, List.set_cons_zero, List.set_cons_succ])
  refine ⟨⟨(belowRow (belowRow hup hz10 _) hz11 _), kafter (unhide HKA) (belowRow (belowRow hup hz10 _) hz11 _)⟩, ?_⟩
  refine Gen.done (K := (kAnd (kNew V2.heap.size BA10 _) (kAnd (kNew V2.heap.size BA11 _) _))) (by kernel_rfl) ⟨⟨(RowIs.other (RowIs.same hg10 _) hne10_11 _), hz10⟩, ⟨⟨(RowIs.same (IsRow.setRow hg11 _ _) _), hz11⟩, kafter (unhide HKA) (belowRow (belowRow hup hz10 _) hz11 _)⟩⟩ (fun WA hKA => ?_) _
  clear okA hup hg10 hz10 hg11 hz11
  have HK := hide hKA
  have HC := ktells hKA
  (try dsimp only at HC)
  clear hKA
  go_wp2_with (first | (go_at_call 17; refine know_at (by (repeat (first | exact kk (unhide HK) | apply kkbox | apply kkdrew | apply kkdrewN | apply kkalloc))) (fun hKa => ?_); (try simp only [World.size_alloc] at hKa); (try simp only [World.size_drew] at hKa); refine (awake_any _).mono ?_; rintro e w1 ⟨rfl, hb1⟩; have HK := hide (kafter hKa hb1); clear hKa hb1; have HC := ktells (unhide HK); (try dsimp only at HC)) | (go_at_call 24; refine (rightStr_sym _ _ _ _ _).mono ?_; rintro e w1 ⟨rfl, o1, rfl⟩) | (go_at_call 31; refine (refIn_any _ _ _ _).mono ?_; rintro e w2 ⟨rfl, rfl⟩))
  all_goals (go_ret; exact ⟨rfl, kup (unhide HK)⟩)

set_option maxRecDepth 100000 in
set_option maxHeartbeats 12800000 in
theorem heats2 (M H S G M' H' S' G' k a1 a2 a3 a4 ea b1 b2 b3 b4 c1 c2 c3 c4 eb : Int) (HH : Hid (heatR ⟨M, H, S, G⟩ k = (⟨a1, a2, a3, a4⟩, ea))) (HE : Hid (exR ⟨M, H, S, G⟩ ⟨M', H', S', G'⟩ k = (⟨b1, b2, b3, b4⟩, ⟨c1, c2, c3, c4⟩, eb))) (hs : strOk ⟨M, H, S, G⟩ = true) (hin : inB k (-5000000000) 5000000000 = false) (ht : strOk ⟨M', H', S', G'⟩ = false) (za : a1 = 0 ∧ a2 = 0 ∧ a3 = 0 ∧ a4 = 0) (zb : (b1 = 0 ∧ b2 = 0 ∧ b3 = 0 ∧ b4 = 0) ∧ c1 = 0 ∧ c2 = 0 ∧ c3 = 0 ∧ c4 = 0) (ea' : ea = 2) (eb' : eb = 1) (w : World) :
    Calls Try.prog 11 #[.agg #[.int .i64 M, .int .i64 H, .int .i64 S, .int .i64 G], .agg #[.int .i64 M', .int .i64 H', .int .i64 S', .int .i64 G'], .int .i64 k] w fun e w' => e = .returned (.bool true) ∧ Below w.heap.size w w' := by
  have HK : Hid (kUp w w) := hide (Below.refl _ _)
  obtain ⟨rfl, rfl, rfl, rfl⟩ := za
  obtain ⟨⟨rfl, rfl, rfl, rfl⟩, rfl, rfl, rfl, rfl⟩ := zb
  subst ea' eb'
  go_enter Try.func11, Try.ntmps11
  go_upto_region 2 with (first | (go_at_call 26; refine (mkStr_is _ _ _ _ _).mono ?_; rintro e w1 ⟨rfl, o1, o2, rfl⟩) | (go_at_call 44; refine (heated_is _ _ _ _ _ _ _ (unhide HH) _).mono ?_; rintro e w2 ⟨rfl, o3, o4, o5, rfl⟩))
  refine know_here (by (repeat (first | exact kk (unhide HK) | apply kkbox | apply kkdrew | apply kkdrewN | apply kkalloc))) ?_
  intro V2 hKA
  (try simp only [World.size_alloc] at hKA)
  (try simp only [World.size_drew] at hKA)
  have HKA := hide hKA
  have HCA := ktells hKA
  (try dsimp only at HCA)
  refine Gen.begin_ [⟨10, 9, #[.int .i64 0, .int .i64 0, .int .i64 0, .int .i64 0], 42⟩, ⟨11, 10, #[.int .i64 0, .int .i64 0, .int .i64 0, .int .i64 0], 42⟩] 13 (by kernel_rfl) hKA (by rfl) ⟨fun x hx => by (simp only [List.mem_cons, List.not_mem_nil, or_false] at hx; rcases hx with rfl | rfl; all_goals exact ⟨_, by rfl, by rfl, by rfl, fun _ _ => by kernel_rfl⟩), by kernel_rfl, fun _ _ _ _ _ => Iff.rfl⟩ (fun okA => ?_)
  clear hKA
  refine Gen.take 0 (v := ?vv8) okA (by simp only [List.getElem?_toArray, List.getElem?_cons_zero]; rfl) (by kernel_rfl) (by kernel_rfl) (by kernel_rfl) (Or.inl ⟨by rfl, ?hh8⟩) ?_
  case hh8 => (intro wg hSw; have hc := ktells hSw; (try dsimp only at hc); go_simp; try with_reducible rfl)
  (try simp only [Act.put, List.setIfInBounds_toArray, List.set_cons_zero, List.set_cons_succ])
  refine Gen.take 2 (v := ?vv9) okA (by simp only [List.getElem?_toArray, List.getElem?_cons_zero, List.getElem?_cons_succ]; rfl) (by kernel_rfl) (by kernel_rfl) (by kernel_rfl) (Or.inl ⟨by rfl, ?hh9⟩) ?_
  case hh9 => (intro wg hSw; have hc := ktells hSw; (try dsimp only at hc); go_simp; try with_reducible rfl)
  (try simp only [Act.put, List.setIfInBounds_toArray, List.set_cons_zero, List.set_cons_succ])
  refine Gen.take 4 (v := ?vv10) okA (by simp only [List.getElem?_toArray, List.getElem?_cons_zero, List.getElem?_cons_succ]; rfl) (by kernel_rfl) (by kernel_rfl) (by kernel_rfl) (Or.inl ⟨by rfl, ?hh10⟩) ?_
  case hh10 => (intro wg hSw; have hc := ktells hSw; (try dsimp only at hc); go_simp; try with_reducible rfl)
  (try simp only [Act.put, List.setIfInBounds_toArray, List.set_cons_zero, List.set_cons_succ])
  refine Gen.step inferInstance Gen.size 1 okA (by kernel_rfl) inferInstance (by simp) (fun wg hKg hSg => wpOp_of (by simp only [List.getElem?_toArray, List.getElem?_cons_zero, List.getElem?_cons_succ]; rfl) (by rfl) ?_)
  go_simp
  refine (mkStr_is _ _ _ _ _).mono ?_
  rintro e wh ⟨rfl, o1, o2, rfl⟩
  (try dsimp only)
  refine Gen.stay rfl hKg (by (repeat (first | exact Below.refl _ _ | refine Below.allocs ?_ _ | refine Below.drew ?_ | refine Below.drewNs ?_ _))) ?_
  clear hKg hSg
  refine Gen.step inferInstance Gen.size 3 okA (by kernel_rfl) inferInstance (by simp) (fun wg hKg hSg => wpOp_of (by simp only [List.getElem?_toArray, List.getElem?_cons_zero, List.getElem?_cons_succ]; rfl) (by rfl) ?_)
  go_simp
  refine (mkStr_is _ _ _ _ _).mono ?_
  rintro e wh ⟨rfl, o1, o2, rfl⟩
  (try dsimp only)
  refine Gen.stay rfl hKg (by (repeat (first | exact Below.refl _ _ | refine Below.allocs ?_ _ | refine Below.drew ?_ | refine Below.drewNs ?_ _))) ?_
  clear hKg hSg
  refine Gen.step inferInstance Gen.size 5 okA (by kernel_rfl) inferInstance (by simp) (fun wg hKg hSg => wpOp_of (by simp only [List.getElem?_toArray, List.getElem?_cons_zero, List.getElem?_cons_succ]; rfl) (by rfl) ?_)
  go_simp
  refine (exchange_is _ _ _ _ _ _ _ _ _ _ _ _ _ _ _ _ _ _ (unhide HE) _).mono ?_
  rintro e wh ⟨rfl, hb1⟩
  (try dsimp only)
  refine Gen.stay rfl hKg hb1 ?_
  clear hKg hSg
  clear hb1
  refine Gen.take 6 (v := ?vv11) okA (by simp only [List.getElem?_toArray, List.getElem?_cons_zero, List.getElem?_cons_succ]; rfl) (by kernel_rfl) (by kernel_rfl) (by kernel_rfl) (Or.inl ⟨by rfl, ?hh11⟩) ?_
  case hh11 => (intro wg hSw; have hc := ktells hSw; (try dsimp only at hc); go_simp; try with_reducible rfl)
  (try simp only [Act.put, List.setIfInBounds_toArray, List.set_cons_zero, List.set_cons_succ])
  refine Gen.take 7 (v := ?vv12) okA (by simp only [List.getElem?_toArray, List.getElem?_cons_zero, List.getElem?_cons_succ]; rfl) (by kernel_rfl) (by kernel_rfl) (by kernel_rfl) (Or.inl ⟨by rfl, ?hh12⟩) ?_
  case hh12 => (intro wg hSw; have hc := ktells hSw; (try dsimp only at hc); go_simp; try with_reducible rfl)
  (try simp only [Act.put, List.setIfInBounds_toArray, List.set_cons_zero, List.set_cons_succ])
  refine Gen.take 8 (v := ?vv13) okA (by simp only [List.getElem?_toArray, List.getElem?_cons_zero, List.getElem?_cons_succ]; rfl) (by kernel_rfl) (by kernel_rfl) (by kernel_rfl) (Or.inl ⟨by rfl, ?hh13⟩) ?_
  case hh13 => (intro wg hSw; have hc := ktells hSw; (try dsimp only at hc); go_simp; try with_reducible rfl)
  (try simp only [Act.put, List.setIfInBounds_toArray, List.set_cons_zero, List.set_cons_succ])
  refine Gen.take 9 (v := ?vv14) okA (by simp only [List.getElem?_toArray, List.getElem?_cons_zero, List.getElem?_cons_succ]; rfl) (by kernel_rfl) (by kernel_rfl) (by kernel_rfl) (Or.inl ⟨by rfl, ?hh14⟩) ?_
  case hh14 => (intro wg hSw; have hc := ktells hSw; (try dsimp only at hc); go_simp; try with_reducible rfl)
  (try simp only [Act.put, List.setIfInBounds_toArray, List.set_cons_zero, List.set_cons_succ])
  refine Gen.finish inferInstance Gen.size okA (by kernel_rfl) inferInstance (by simp) ?_
  simp only [Gen.Fin, NewVar.put]
  (try simp only [Act.put, List.setIfInBounds_toArray, List.set_cons_zero, List.set_cons_succ])
  intro BA10 hnA10 BA11 hnA11 wf hKf hSf
  obtain ⟨wu, rfl, hg10, hg11, hup⟩ := graft2 (fun W => Below V2.heap.size V2 W) hKf.2.1.1 hKf.1.1 hSf.1
  have hz10 := hKf.2.1.2
  have hz11 := hKf.1.2
  have hne10_11 : BA10 ≠ BA11 := fun e => hnA11 (by simp [e])
  have hne11_10 : BA11 ≠ BA10 := fun e => hne10_11 e.symm
  clear hKf hSf
  refine Gen.one 12 (by kernel_rfl) (wpOp_of (by simp only [List.getElem?_toArray, List.getElem?_cons_zero, List.getElem?_cons_succ]; rfl) (by rfl) ?_)
  go_simp
  (try simp only [Act.put, List.setIfInBounds_toArray, List.set_cons_zero, List.set_cons_succ])
  refine ⟨⟨(belowRow (belowRow hup hz10 _) hz11 _), kafter (unhide HKA) (belowRow (belowRow hup hz10 _) hz11 _)⟩, ?_⟩
  refine Gen.one 13 (by kernel_rfl) (wpOp_of (by simp only [List.getElem?_toArray, List.getElem?_cons_zero, List.getElem?_cons_succ]; rfl) (by rfl) ?_)
  go_simp
  (try simp only [Act.put, List.setIfInBounds_toArray, List.set_cons_zero, List.set_cons_succ])
  refine ⟨⟨(belowRow (belowRow hup hz10 _) hz11 _), kafter (unhide HKA) (belowRow (belowRow hup hz10 _) hz11 _)⟩, ?_⟩
  refine Gen.one 14 (by kernel_rfl) (wpOp_of (by simp only [List.getElem?_toArray, List.getElem?_cons_zero, List.getElem?_cons_succ]; rfl) (by rfl) ?_)
  go_simp
  (try simp only [Act.put, List.setIfInBounds_toArray, List.set_cons_zero, List.set_cons_succ])
  refine ⟨⟨(belowRow (belowRow hup hz10 _) hz11 _), kafter (unhide HKA) (belowRow (belowRow hup hz10 _) hz11 _)⟩, ?_⟩
  refine Gen.done (K := (kAnd (kNew V2.heap.size BA10 _) (kAnd (kNew V2.heap.size BA11 _) _))) (by kernel_rfl) ⟨⟨(RowIs.other (RowIs.same hg10 _) hne10_11 _), hz10⟩, ⟨⟨(RowIs.same (IsRow.setRow hg11 _ _) _), hz11⟩, kafter (unhide HKA) (belowRow (belowRow hup hz10 _) hz11 _)⟩⟩ (fun WA hKA => ?_) _
  clear okA hup hg10 hz10 hg11 hz11
  have HK := hide hKA
  have HC := ktells hKA
  (try dsimp only at HC)
  clear hKA
  go_upto_region 6 with (first | (go_at_call 17; refine know_at (by (repeat (first | exact kk (unhide HK) | apply kkbox | apply kkdrew | apply kkdrewN | apply kkalloc))) (fun hKa => ?_); (try simp only [World.size_alloc] at hKa); (try simp only [World.size_drew] at hKa); refine (awake_any _).mono ?_; rintro e w1 ⟨rfl, hb1⟩; have HK := hide (kafter hKa hb1); clear hKa hb1; have HC := ktells (unhide HK); (try dsimp only at HC)) | (go_at_call 24; refine (rightStr_sym _ _ _ _ _).mono ?_; rintro e w1 ⟨rfl, o1, rfl⟩) | (go_at_call 31; refine (refIn_any _ _ _ _).mono ?_; rintro e w2 ⟨rfl, rfl⟩))
  refine know_here (by (repeat (first | exact kk (unhide HK) | apply kkbox | apply kkdrew | apply kkdrewN | apply kkalloc))) ?_
  intro V6 hKB
  (try simp only [World.size_alloc] at hKB)
  (try simp only [World.size_drew] at hKB)
  have HKB := hide hKB
  have HCB := ktells hKB
  (try dsimp only at HCB)
  refine Gen.begin_ [⟨2, 13, #[.int .i64 0, .int .i64 0, .int .i64 0, .int .i64 0], 39⟩, ⟨3, 14, #[.int .i64 0, .int .i64 0, .int .i64 0, .int .i64 0], 39⟩] 4 (by kernel_rfl) hKB (by rfl) ⟨fun x hx => by (simp only [List.mem_cons, List.not_mem_nil, or_false] at hx; rcases hx with rfl | rfl; all_goals exact ⟨_, by rfl, by rfl, by rfl, fun _ _ => by kernel_rfl⟩), by kernel_rfl, fun _ _ _ _ _ => Iff.rfl⟩ (fun okB => ?_)
  clear hKB
  refine Gen.take 0 (v := ?vv15) okB (by simp only [List.getElem?_toArray, List.getElem?_cons_zero]; rfl) (by kernel_rfl) (by kernel_rfl) (by kernel_rfl) (Or.inl ⟨by rfl, ?hh15⟩) ?_
  case hh15 => (intro wg hSw; have hc := ktells hSw; (try dsimp only at hc); go_simp; try with_reducible rfl)
  (try simp only [Act.put, List.setIfInBounds_toArray, List.set_cons_zero, List.set_cons_succ])
  refine Gen.take 1 (v := ?vv16) okB (by simp only [List.getElem?_toArray, List.getElem?_cons_zero, List.getElem?_cons_succ]; rfl) (by kernel_rfl) (by kernel_rfl) (by kernel_rfl) (Or.inl ⟨by rfl, ?hh16⟩) ?_
  case hh16 => (intro wg hSw; have hc := ktells hSw; (try dsimp only at hc); go_simp; try with_reducible rfl)
  (try simp only [Act.put, List.setIfInBounds_toArray, List.set_cons_zero, List.set_cons_succ])
  refine Gen.finish inferInstance Gen.size okB (by kernel_rfl) inferInstance (by simp) ?_
  simp only [Gen.Fin, NewVar.put]
  (try simp only [Act.put, List.setIfInBounds_toArray, List.set_cons_zero, List.set_cons_succ])
  intro BB2 hnB2 BB3 hnB3 wf hKf hSf
  obtain ⟨wu, rfl, hg2, hg3, hup⟩ := graft2 (fun W => Below V6.heap.size V6 W) hKf.2.1.1 hKf.1.1 hSf.1
  have hz2 := hKf.2.1.2
  have hz3 := hKf.1.2
  have hne2_3 : BB2 ≠ BB3 := fun e => hnB3 (by simp [e])
  have hne3_2 : BB3 ≠ BB2 := fun e => hne2_3 e.symm
  clear hKf hSf
  refine Gen.one 4 (by kernel_rfl) (wpOp_of (by simp only [List.getElem?_toArray, List.getElem?_cons_zero, List.getElem?_cons_succ]; rfl) (by rfl) ?_)
  go_simp
  (try simp only [Act.put, List.setIfInBounds_toArray, List.set_cons_zero, List.set_cons_succ])
  refine ⟨⟨(belowRow (belowRow hup hz2 _) hz3 _), kafter (unhide HKB) (belowRow (belowRow hup hz2 _) hz3 _)⟩, ?_⟩
  refine Gen.one 5 (by kernel_rfl) (wpOp_of (by simp only [List.getElem?_toArray, List.getElem?_cons_zero, List.getElem?_cons_succ]; rfl) (by rfl) ?_)
  go_simp
  (try simp only [Act.put, List.setIfInBounds_toArray, List.set_cons_zero, List.set_cons_succ])
  refine ⟨⟨(belowRow (belowRow hup hz2 _) hz3 _), kafter (unhide HKB) (belowRow (belowRow hup hz2 _) hz3 _)⟩, ?_⟩
  refine Gen.done (K := (kAnd (kNew V6.heap.size BB2 _) (kAnd (kNew V6.heap.size BB3 _) _))) (by kernel_rfl) ⟨⟨(RowIs.other (RowIs.same hg2 _) hne2_3 _), hz2⟩, ⟨⟨(RowIs.same (IsRow.setRow hg3 _ _) _), hz3⟩, kafter (unhide HKB) (belowRow (belowRow hup hz2 _) hz3 _)⟩⟩ (fun WB hKB => ?_) _
  clear okB hup hg2 hz2 hg3 hz3
  have HK := hide hKB
  have HC := ktells hKB
  (try dsimp only at HC)
  clear hKB
  go_wp2_with (first | (go_at_call 17; refine know_at (by (repeat (first | exact kk (unhide HK) | apply kkbox | apply kkdrew | apply kkdrewN | apply kkalloc))) (fun hKa => ?_); (try simp only [World.size_alloc] at hKa); (try simp only [World.size_drew] at hKa); refine (awake_any _).mono ?_; rintro e w1 ⟨rfl, hb1⟩; have HK := hide (kafter hKa hb1); clear hKa hb1; have HC := ktells (unhide HK); (try dsimp only at HC)) | (go_at_call 24; refine (rightStr_sym _ _ _ _ _).mono ?_; rintro e w1 ⟨rfl, o1, rfl⟩) | (go_at_call 31; refine (refIn_any _ _ _ _).mono ?_; rintro e w2 ⟨rfl, rfl⟩))
  all_goals (go_ret; exact ⟨rfl, kup (unhide HK)⟩)

set_option maxRecDepth 100000 in
set_option maxHeartbeats 12800000 in
theorem heats3 (M H S G M' H' S' G' k a1 a2 a3 a4 ea b1 b2 b3 b4 c1 c2 c3 c4 eb : Int) (HH : Hid (heatR ⟨M, H, S, G⟩ k = (⟨a1, a2, a3, a4⟩, ea))) (HE : Hid (exR ⟨M, H, S, G⟩ ⟨M', H', S', G'⟩ k = (⟨b1, b2, b3, b4⟩, ⟨c1, c2, c3, c4⟩, eb))) (hs : strOk ⟨M, H, S, G⟩ = true) (hin : inB k (-5000000000) 5000000000 = false) (ht : strOk ⟨M', H', S', G'⟩ = true) (za : a1 = 0 ∧ a2 = 0 ∧ a3 = 0 ∧ a4 = 0) (zb : (b1 = 0 ∧ b2 = 0 ∧ b3 = 0 ∧ b4 = 0) ∧ c1 = 0 ∧ c2 = 0 ∧ c3 = 0 ∧ c4 = 0) (ea' : ea = 2) (eb' : eb = 2) (w : World) :
    Calls Try.prog 11 #[.agg #[.int .i64 M, .int .i64 H, .int .i64 S, .int .i64 G], .agg #[.int .i64 M', .int .i64 H', .int .i64 S', .int .i64 G'], .int .i64 k] w fun e w' => e = .returned (.bool true) ∧ Below w.heap.size w w' := by
  have HK : Hid (kUp w w) := hide (Below.refl _ _)
  obtain ⟨rfl, rfl, rfl, rfl⟩ := za
  obtain ⟨⟨rfl, rfl, rfl, rfl⟩, rfl, rfl, rfl, rfl⟩ := zb
  subst ea' eb'
  go_enter Try.func11, Try.ntmps11
  go_upto_region 2 with (first | (go_at_call 26; refine (mkStr_is _ _ _ _ _).mono ?_; rintro e w1 ⟨rfl, o1, o2, rfl⟩) | (go_at_call 44; refine (heated_is _ _ _ _ _ _ _ (unhide HH) _).mono ?_; rintro e w2 ⟨rfl, o3, o4, o5, rfl⟩))
  refine know_here (by (repeat (first | exact kk (unhide HK) | apply kkbox | apply kkdrew | apply kkdrewN | apply kkalloc))) ?_
  intro V2 hKA
  (try simp only [World.size_alloc] at hKA)
  (try simp only [World.size_drew] at hKA)
  have HKA := hide hKA
  have HCA := ktells hKA
  (try dsimp only at HCA)
  refine Gen.begin_ [⟨10, 9, #[.int .i64 0, .int .i64 0, .int .i64 0, .int .i64 0], 42⟩, ⟨11, 10, #[.int .i64 0, .int .i64 0, .int .i64 0, .int .i64 0], 42⟩] 13 (by kernel_rfl) hKA (by rfl) ⟨fun x hx => by (simp only [List.mem_cons, List.not_mem_nil, or_false] at hx; rcases hx with rfl | rfl; all_goals exact ⟨_, by rfl, by rfl, by rfl, fun _ _ => by kernel_rfl⟩), by kernel_rfl, fun _ _ _ _ _ => Iff.rfl⟩ (fun okA => ?_)
  clear hKA
  refine Gen.take 0 (v := ?vv17) okA (by simp only [List.getElem?_toArray, List.getElem?_cons_zero]; rfl) (by kernel_rfl) (by kernel_rfl) (by kernel_rfl) (Or.inl ⟨by rfl, ?hh17⟩) ?_
  case hh17 => (intro wg hSw; have hc := ktells hSw; (try dsimp only at hc); go_simp; try with_reducible rfl)
  (try simp only [Act.put, List.setIfInBounds_toArray, List.set_cons_zero, List.set_cons_succ])
  refine Gen.take 2 (v := ?vv18) okA (by simp only [List.getElem?_toArray, List.getElem?_cons_zero, List.getElem?_cons_succ]; rfl) (by kernel_rfl) (by kernel_rfl) (by kernel_rfl) (Or.inl ⟨by rfl, ?hh18⟩) ?_
  case hh18 => (intro wg hSw; have hc := ktells hSw; (try dsimp only at hc); go_simp; try with_reducible rfl)
  (try simp only [Act.put, List.setIfInBounds_toArray, List.set_cons_zero, List.set_cons_succ])
  refine Gen.take 4 (v := ?vv19) okA (by simp only [List.getElem?_toArray, List.getElem?_cons_zero, List.getElem?_cons_succ]; rfl) (by kernel_rfl) (by kernel_rfl) (by kernel_rfl) (Or.inl ⟨by rfl, ?hh19⟩) ?_
  case hh19 => (intro wg hSw; have hc := ktells hSw; (try dsimp only at hc); go_simp; try with_reducible rfl)
  (try simp only [Act.put, List.setIfInBounds_toArray, List.set_cons_zero, List.set_cons_succ])
  refine Gen.step inferInstance Gen.size 1 okA (by kernel_rfl) inferInstance (by simp) (fun wg hKg hSg => wpOp_of (by simp only [List.getElem?_toArray, List.getElem?_cons_zero, List.getElem?_cons_succ]; rfl) (by rfl) ?_)
  go_simp
  refine (mkStr_is _ _ _ _ _).mono ?_
  rintro e wh ⟨rfl, o1, o2, rfl⟩
  (try dsimp only)
  refine Gen.stay rfl hKg (by (repeat (first | exact Below.refl _ _ | refine Below.allocs ?_ _ | refine Below.drew ?_ | refine Below.drewNs ?_ _))) ?_
  clear hKg hSg
  refine Gen.step inferInstance Gen.size 3 okA (by kernel_rfl) inferInstance (by simp) (fun wg hKg hSg => wpOp_of (by simp only [List.getElem?_toArray, List.getElem?_cons_zero, List.getElem?_cons_succ]; rfl) (by rfl) ?_)
  go_simp
  refine (mkStr_is _ _ _ _ _).mono ?_
  rintro e wh ⟨rfl, o1, o2, rfl⟩
  (try dsimp only)
  refine Gen.stay rfl hKg (by (repeat (first | exact Below.refl _ _ | refine Below.allocs ?_ _ | refine Below.drew ?_ | refine Below.drewNs ?_ _))) ?_
  clear hKg hSg
  refine Gen.step inferInstance Gen.size 5 okA (by kernel_rfl) inferInstance (by simp) (fun wg hKg hSg => wpOp_of (by simp only [List.getElem?_toArray, List.getElem?_cons_zero, List.getElem?_cons_succ]; rfl) (by rfl) ?_)
  go_simp
  refine (exchange_is _ _ _ _ _ _ _ _ _ _ _ _ _ _ _ _ _ _ (unhide HE) _).mono ?_
  rintro e wh ⟨rfl, hb1⟩
  (try dsimp only)
  refine Gen.stay rfl hKg hb1 ?_
  clear hKg hSg
  clear hb1
  refine Gen.take 6 (v := ?vv20) okA (by simp only [List.getElem?_toArray, List.getElem?_cons_zero, List.getElem?_cons_succ]; rfl) (by kernel_rfl) (by kernel_rfl) (by kernel_rfl) (Or.inl ⟨by rfl, ?hh20⟩) ?_
  case hh20 => (intro wg hSw; have hc := ktells hSw; (try dsimp only at hc); go_simp; try with_reducible rfl)
  (try simp only [Act.put, List.setIfInBounds_toArray, List.set_cons_zero, List.set_cons_succ])
  refine Gen.take 7 (v := ?vv21) okA (by simp only [List.getElem?_toArray, List.getElem?_cons_zero, List.getElem?_cons_succ]; rfl) (by kernel_rfl) (by kernel_rfl) (by kernel_rfl) (Or.inl ⟨by rfl, ?hh21⟩) ?_
  case hh21 => (intro wg hSw; have hc := ktells hSw; (try dsimp only at hc); go_simp; try with_reducible rfl)
  (try simp only [Act.put, List.setIfInBounds_toArray, List.set_cons_zero, List.set_cons_succ])
  refine Gen.take 8 (v := ?vv22) okA (by simp only [List.getElem?_toArray, List.getElem?_cons_zero, List.getElem?_cons_succ]; rfl) (by kernel_rfl) (by kernel_rfl) (by kernel_rfl) (Or.inl ⟨by rfl, ?hh22⟩) ?_
  case hh22 => (intro wg hSw; have hc := ktells hSw; (try dsimp only at hc); go_simp; try with_reducible rfl)
  (try simp only [Act.put, List.setIfInBounds_toArray, List.set_cons_zero, List.set_cons_succ])
  refine Gen.take 9 (v := ?vv23) okA (by simp only [List.getElem?_toArray, List.getElem?_cons_zero, List.getElem?_cons_succ]; rfl) (by kernel_rfl) (by kernel_rfl) (by kernel_rfl) (Or.inl ⟨by rfl, ?hh23⟩) ?_
  case hh23 => (intro wg hSw; have hc := ktells hSw; (try dsimp only at hc); go_simp; try with_reducible rfl)
  (try simp only [Act.put, List.setIfInBounds_toArray, List.set_cons_zero, List.set_cons_succ])
  refine Gen.finish inferInstance Gen.size okA (by kernel_rfl) inferInstance (by simp) ?_
  simp only [Gen.Fin, NewVar.put]
  (try simp only [Act.put, List.setIfInBounds_toArray, List.set_cons_zero, List.set_cons_succ])
  intro BA10 hnA10 BA11 hnA11 wf hKf hSf
  obtain ⟨wu, rfl, hg10, hg11, hup⟩ := graft2 (fun W => Below V2.heap.size V2 W) hKf.2.1.1 hKf.1.1 hSf.1
  have hz10 := hKf.2.1.2
  have hz11 := hKf.1.2
  have hne10_11 : BA10 ≠ BA11 := fun e => hnA11 (by simp [e])
  have hne11_10 : BA11 ≠ BA10 := fun e => hne10_11 e.symm
  clear hKf hSf
  refine Gen.one 12 (by kernel_rfl) (wpOp_of (by simp only [List.getElem?_toArray, List.getElem?_cons_zero, List.getElem?_cons_succ]; rfl) (by rfl) ?_)
  go_simp
  (try simp only [Act.put, List.setIfInBounds_toArray, List.set_cons_zero, List.set_cons_succ])
  refine ⟨⟨(belowRow (belowRow hup hz10 _) hz11 _), kafter (unhide HKA) (belowRow (belowRow hup hz10 _) hz11 _)⟩, ?_⟩
  refine Gen.one 13 (by kernel_rfl) (wpOp_of (by simp only [List.getElem?_toArray, List.getElem?_cons_zero, List.getElem?_cons_succ]; rfl) (by rfl) ?_)
  go_simp
  (try simp only [Act.put, List.setIfInBounds_toArray, List.set_cons_zero, List.set_cons_succ])
  refine ⟨⟨(belowRow (belowRow hup hz10 _) hz11 _), kafter (unhide HKA) (belowRow (belowRow hup hz10 _) hz11 _)⟩, ?_⟩
  refine Gen.one 14 (by kernel_rfl) (wpOp_of (by simp only [List.getElem?_toArray, List.getElem?_cons_zero, List.getElem?_cons_succ]; rfl) (by rfl) ?_)
  go_simp
  (try simp only [Act.put, List.setIfInBounds_toArray, List.set_cons_zero, List.set_cons_succ])
  refine ⟨⟨(belowRow (belowRow hup hz10 _) hz11 _), kafter (unhide HKA) (belowRow (belowRow hup hz10 _) hz11 _)⟩, ?_⟩
  refine Gen.done (K := (kAnd (kNew V2.heap.size BA10 _) (kAnd (kNew V2.heap.size BA11 _) _))) (by kernel_rfl) ⟨⟨(RowIs.other (RowIs.same hg10 _) hne10_11 _), hz10⟩, ⟨⟨(RowIs.same (IsRow.setRow hg11 _ _) _), hz11⟩, kafter (unhide HKA) (belowRow (belowRow hup hz10 _) hz11 _)⟩⟩ (fun WA hKA => ?_) _
  clear okA hup hg10 hz10 hg11 hz11
  have HK := hide hKA
  have HC := ktells hKA
  (try dsimp only at HC)
  clear hKA
  go_upto_region 6 with (first | (go_at_call 17; refine know_at (by (repeat (first | exact kk (unhide HK) | apply kkbox | apply kkdrew | apply kkdrewN | apply kkalloc))) (fun hKa => ?_); (try simp only [World.size_alloc] at hKa); (try simp only [World.size_drew] at hKa); refine (awake_any _).mono ?_; rintro e w1 ⟨rfl, hb1⟩; have HK := hide (kafter hKa hb1); clear hKa hb1; have HC := ktells (unhide HK); (try dsimp only at HC)) | (go_at_call 24; refine (rightStr_sym _ _ _ _ _).mono ?_; rintro e w1 ⟨rfl, o1, rfl⟩) | (go_at_call 31; refine (refIn_any _ _ _ _).mono ?_; rintro e w2 ⟨rfl, rfl⟩))
  refine know_here (by (repeat (first | exact kk (unhide HK) | apply kkbox | apply kkdrew | apply kkdrewN | apply kkalloc))) ?_
  intro V6 hKB
  (try simp only [World.size_alloc] at hKB)
  (try simp only [World.size_drew] at hKB)
  have HKB := hide hKB
  have HCB := ktells hKB
  (try dsimp only at HCB)
  refine Gen.begin_ [⟨2, 13, #[.int .i64 0, .int .i64 0, .int .i64 0, .int .i64 0], 39⟩, ⟨3, 14, #[.int .i64 0, .int .i64 0, .int .i64 0, .int .i64 0], 39⟩] 4 (by kernel_rfl) hKB (by rfl) ⟨fun x hx => by (simp only [List.mem_cons, List.not_mem_nil, or_false] at hx; rcases hx with rfl | rfl; all_goals exact ⟨_, by rfl, by rfl, by rfl, fun _ _ => by kernel_rfl⟩), by kernel_rfl, fun _ _ _ _ _ => Iff.rfl⟩ (fun okB => ?_)
  clear hKB
  refine Gen.take 0 (v := ?vv24) okB (by simp only [List.getElem?_toArray, List.getElem?_cons_zero]; rfl) (by kernel_rfl) (by kernel_rfl) (by kernel_rfl) (Or.inl ⟨by rfl, ?hh24⟩) ?_
  case hh24 => (intro wg hSw; have hc := ktells hSw; (try dsimp only at hc); go_simp; try with_reducible rfl)
  (try simp only [Act.put, List.setIfInBounds_toArray, List.set_cons_zero, List.set_cons_succ])
  refine Gen.take 1 (v := ?vv25) okB (by simp only [List.getElem?_toArray, List.getElem?_cons_zero, List.getElem?_cons_succ]; rfl) (by kernel_rfl) (by kernel_rfl) (by kernel_rfl) (Or.inl ⟨by rfl, ?hh25⟩) ?_
  case hh25 => (intro wg hSw; have hc := ktells hSw; (try dsimp only at hc); go_simp; try with_reducible rfl)
  (try simp only [Act.put, List.setIfInBounds_toArray, List.set_cons_zero, List.set_cons_succ])
  refine Gen.finish inferInstance Gen.size okB (by kernel_rfl) inferInstance (by simp) ?_
  simp only [Gen.Fin, NewVar.put]
  (try simp only [Act.put, List.setIfInBounds_toArray, List.set_cons_zero, List.set_cons_succ])
  intro BB2 hnB2 BB3 hnB3 wf hKf hSf
  obtain ⟨wu, rfl, hg2, hg3, hup⟩ := graft2 (fun W => Below V6.heap.size V6 W) hKf.2.1.1 hKf.1.1 hSf.1
  have hz2 := hKf.2.1.2
  have hz3 := hKf.1.2
  have hne2_3 : BB2 ≠ BB3 := fun e => hnB3 (by simp [e])
  have hne3_2 : BB3 ≠ BB2 := fun e => hne2_3 e.symm
  clear hKf hSf
  refine Gen.one 4 (by kernel_rfl) (wpOp_of (by simp only [List.getElem?_toArray, List.getElem?_cons_zero, List.getElem?_cons_succ]; rfl) (by rfl) ?_)
  go_simp
  (try simp only [Act.put, List.setIfInBounds_toArray, List.set_cons_zero, List.set_cons_succ])
  refine ⟨⟨(belowRow (belowRow hup hz2 _) hz3 _), kafter (unhide HKB) (belowRow (belowRow hup hz2 _) hz3 _)⟩, ?_⟩
  refine Gen.one 5 (by kernel_rfl) (wpOp_of (by simp only [List.getElem?_toArray, List.getElem?_cons_zero, List.getElem?_cons_succ]; rfl) (by rfl) ?_)
  go_simp
  (try simp only [Act.put, List.setIfInBounds_toArray, List.set_cons_zero, List.set_cons_succ])
  refine ⟨⟨(belowRow (belowRow hup hz2 _) hz3 _), kafter (unhide HKB) (belowRow (belowRow hup hz2 _) hz3 _)⟩, ?_⟩
  refine Gen.done (K := (kAnd (kNew V6.heap.size BB2 _) (kAnd (kNew V6.heap.size BB3 _) _))) (by kernel_rfl) ⟨⟨(RowIs.other (RowIs.same hg2 _) hne2_3 _), hz2⟩, ⟨⟨(RowIs.same (IsRow.setRow hg3 _ _) _), hz3⟩, kafter (unhide HKB) (belowRow (belowRow hup hz2 _) hz3 _)⟩⟩ (fun WB hKB => ?_) _
  clear okB hup hg2 hz2 hg3 hz3
  have HK := hide hKB
  have HC := ktells hKB
  (try dsimp only at HC)
  clear hKB
  go_wp2_with (first | (go_at_call 17; refine know_at (by (repeat (first | exact kk (unhide HK) | apply kkbox | apply kkdrew | apply kkdrewN | apply kkalloc))) (fun hKa => ?_); (try simp only [World.size_alloc] at hKa); (try simp only [World.size_drew] at hKa); refine (awake_any _).mono ?_; rintro e w1 ⟨rfl, hb1⟩; have HK := hide (kafter hKa hb1); clear hKa hb1; have HC := ktells (unhide HK); (try dsimp only at HC)) | (go_at_call 24; refine (rightStr_sym _ _ _ _ _).mono ?_; rintro e w1 ⟨rfl, o1, rfl⟩) | (go_at_call 31; refine (refIn_any _ _ _ _).mono ?_; rintro e w2 ⟨rfl, rfl⟩))
  all_goals (go_ret; exact ⟨rfl, kup (unhide HK)⟩)

set_option maxRecDepth 100000 in
set_option maxHeartbeats 12800000 in
theorem heats4b (M H S G M' H' S' G' k a1 a2 a3 a4 ea b1 b2 b3 b4 c1 c2 c3 c4 eb : Int) (HH : Hid (heatR ⟨M, H, S, G⟩ k = (⟨a1, a2, a3, a4⟩, ea))) (HE : Hid (exR ⟨M, H, S, G⟩ ⟨M', H', S', G'⟩ k = (⟨b1, b2, b3, b4⟩, ⟨c1, c2, c3, c4⟩, eb))) (hs : strOk ⟨M, H, S, G⟩ = true) (hin : inB k (-5000000000) 5000000000 = true) (ht : strOk ⟨M', H', S', G'⟩ = false) (hx : strOk ⟨M, H + k, S, G⟩ = false) (za : a1 = 0 ∧ a2 = 0 ∧ a3 = 0 ∧ a4 = 0) (ea' : ea = 2) (zb : (b1 = 0 ∧ b2 = 0 ∧ b3 = 0 ∧ b4 = 0) ∧ c1 = 0 ∧ c2 = 0 ∧ c3 = 0 ∧ c4 = 0) (eb' : eb = 1) (w : World) :
    Calls Try.prog 11 #[.agg #[.int .i64 M, .int .i64 H, .int .i64 S, .int .i64 G], .agg #[.int .i64 M', .int .i64 H', .int .i64 S', .int .i64 G'], .int .i64 k] w fun e w' => e = .returned (.bool true) ∧ Below w.heap.size w w' := by
  have HK : Hid (kUp w w) := hide (Below.refl _ _)
  have Bs := strOk_iff.1 hs
  obtain ⟨x0, x1, x2, x3, x4, x5, x6, x7⟩ := Bs
  dsimp only at x0 x1 x2 x3 x4 x5 x6 x7
  obtain ⟨k0, k1⟩ := inB_iff.1 hin
  have w1' : IntKind.i64.wrap (H + k) = H + k := w64 (by omega) (by omega)
  have w2' : IntKind.i64.wrap (H - k) = H - k := w64 (by omega) (by omega)
  obtain ⟨rfl, rfl, rfl, rfl⟩ := za
  obtain ⟨⟨rfl, rfl, rfl, rfl⟩, rfl, rfl, rfl, rfl⟩ := zb
  subst ea' eb'
  go_enter Try.func11, Try.ntmps11
  go_upto_region 2 with (first | (go_at_call 26; refine (mkStr_is _ _ _ _ _).mono ?_; rintro e w1 ⟨rfl, o1, o2, rfl⟩) | (go_at_call 44; refine (heated_is _ _ _ _ _ _ _ (unhide HH) _).mono ?_; rintro e w2 ⟨rfl, o3, o4, o5, rfl⟩))
  refine know_here (by (repeat (first | exact kk (unhide HK) | apply kkbox | apply kkdrew | apply kkdrewN | apply kkalloc))) ?_
  intro V2 hKA
  (try simp only [World.size_alloc] at hKA)
  (try simp only [World.size_drew] at hKA)
  have HKA := hide hKA
  have HCA := ktells hKA
  (try dsimp only at HCA)
  refine Gen.begin_ [⟨10, 9, #[.int .i64 0, .int .i64 0, .int .i64 0, .int .i64 0], 42⟩, ⟨11, 10, #[.int .i64 0, .int .i64 0, .int .i64 0, .int .i64 0], 42⟩] 13 (by kernel_rfl) hKA (by rfl) ⟨fun x hx => by (simp only [List.mem_cons, List.not_mem_nil, or_false] at hx; rcases hx with rfl | rfl; all_goals exact ⟨_, by rfl, by rfl, by rfl, fun _ _ => by kernel_rfl⟩), by kernel_rfl, fun _ _ _ _ _ => Iff.rfl⟩ (fun okA => ?_)
  clear hKA
  refine Gen.take 0 (v := ?vv26) okA (by simp only [List.getElem?_toArray, List.getElem?_cons_zero]; rfl) (by kernel_rfl) (by kernel_rfl) (by kernel_rfl) (Or.inl ⟨by rfl, ?hh26⟩) ?_
  case hh26 => (intro wg hSw; have hc := ktells hSw; (try dsimp only at hc); go_simp; try with_reducible rfl)
  (try simp only [Act.put, List.setIfInBounds_toArray, List.set_cons_zero, List.set_cons_succ])
  refine Gen.take 2 (v := ?vv27) okA (by simp only [List.getElem?_toArray, List.getElem?_cons_zero, List.getElem?_cons_succ]; rfl) (by kernel_rfl) (by kernel_rfl) (by kernel_rfl) (Or.inl ⟨by rfl, ?hh27⟩) ?_
  case hh27 => (intro wg hSw; have hc := ktells hSw; (try dsimp only at hc); go_simp; try with_reducible rfl)
  (try simp only [Act.put, List.setIfInBounds_toArray, List.set_cons_zero, List.set_cons_succ])
  refine Gen.take 4 (v := ?vv28) okA (by simp only [List.getElem?_toArray, List.getElem?_cons_zero, List.getElem?_cons_succ]; rfl) (by kernel_rfl) (by kernel_rfl) (by kernel_rfl) (Or.inl ⟨by rfl, ?hh28⟩) ?_
  case hh28 => (intro wg hSw; have hc := ktells hSw; (try dsimp only at hc); go_simp; try with_reducible rfl)
  (try simp only [Act.put, List.setIfInBounds_toArray, List.set_cons_zero, List.set_cons_succ])
  refine Gen.step inferInstance Gen.size 1 okA (by kernel_rfl) inferInstance (by simp) (fun wg hKg hSg => wpOp_of (by simp only [List.getElem?_toArray, List.getElem?_cons_zero, List.getElem?_cons_succ]; rfl) (by rfl) ?_)
  go_simp
  refine (mkStr_is _ _ _ _ _).mono ?_
  rintro e wh ⟨rfl, o1, o2, rfl⟩
  (try dsimp only)
  refine Gen.stay rfl hKg (by (repeat (first | exact Below.refl _ _ | refine Below.allocs ?_ _ | refine Below.drew ?_ | refine Below.drewNs ?_ _))) ?_
  clear hKg hSg
  refine Gen.step inferInstance Gen.size 3 okA (by kernel_rfl) inferInstance (by simp) (fun wg hKg hSg => wpOp_of (by simp only [List.getElem?_toArray, List.getElem?_cons_zero, List.getElem?_cons_succ]; rfl) (by rfl) ?_)
  go_simp
  refine (mkStr_is _ _ _ _ _).mono ?_
  rintro e wh ⟨rfl, o1, o2, rfl⟩
  (try dsimp only)
  refine Gen.stay rfl hKg (by (repeat (first | exact Below.refl _ _ | refine Below.allocs ?_ _ | refine Below.drew ?_ | refine Below.drewNs ?_ _))) ?_
  clear hKg hSg
  refine Gen.step inferInstance Gen.size 5 okA (by kernel_rfl) inferInstance (by simp) (fun wg hKg hSg => wpOp_of (by simp only [List.getElem?_toArray, List.getElem?_cons_zero, List.getElem?_cons_succ]; rfl) (by rfl) ?_)
  go_simp
  refine (exchange_is _ _ _ _ _ _ _ _ _ _ _ _ _ _ _ _ _ _ (unhide HE) _).mono ?_
  rintro e wh ⟨rfl, hb1⟩
  (try dsimp only)
  refine Gen.stay rfl hKg hb1 ?_
  clear hKg hSg
  clear hb1
  refine Gen.take 6 (v := ?vv29) okA (by simp only [List.getElem?_toArray, List.getElem?_cons_zero, List.getElem?_cons_succ]; rfl) (by kernel_rfl) (by kernel_rfl) (by kernel_rfl) (Or.inl ⟨by rfl, ?hh29⟩) ?_
  case hh29 => (intro wg hSw; have hc := ktells hSw; (try dsimp only at hc); go_simp; try with_reducible rfl)
  (try simp only [Act.put, List.setIfInBounds_toArray, List.set_cons_zero, List.set_cons_succ])
  refine Gen.take 7 (v := ?vv30) okA (by simp only [List.getElem?_toArray, List.getElem?_cons_zero, List.getElem?_cons_succ]; rfl) (by kernel_rfl) (by kernel_rfl) (by kernel_rfl) (Or.inl ⟨by rfl, ?hh30⟩) ?_
  case hh30 => (intro wg hSw; have hc := ktells hSw; (try dsimp only at hc); go_simp; try with_reducible rfl)
  (try simp only [Act.put, List.setIfInBounds_toArray, List.set_cons_zero, List.set_cons_succ])
  refine Gen.take 8 (v := ?vv31) okA (by simp only [List.getElem?_toArray, List.getElem?_cons_zero, List.getElem?_cons_succ]; rfl) (by kernel_rfl) (by kernel_rfl) (by kernel_rfl) (Or.inl ⟨by rfl, ?hh31⟩) ?_
  case hh31 => (intro wg hSw; have hc := ktells hSw; (try dsimp only at hc); go_simp; try with_reducible rfl)
  (try simp only [Act.put, List.setIfInBounds_toArray, List.set_cons_zero, List.set_cons_succ])
  refine Gen.take 9 (v := ?vv32) okA (by simp only [List.getElem?_toArray, List.getElem?_cons_zero, List.getElem?_cons_succ]; rfl) (by kernel_rfl) (by kernel_rfl) (by kernel_rfl) (Or.inl ⟨by rfl, ?hh32⟩) ?_
  case hh32 => (intro wg hSw; have hc := ktells hSw; (try dsimp only at hc); go_simp; try with_reducible rfl)
  (try simp only [Act.put, List.setIfInBounds_toArray, List.set_cons_zero, List.set_cons_succ])
  refine Gen.finish inferInstance Gen.size okA (by kernel_rfl) inferInstance (by simp) ?_
  simp only [Gen.Fin, NewVar.put]
  (try simp only [Act.put, List.setIfInBounds_toArray, List.set_cons_zero, List.set_cons_succ])
  intro BA10 hnA10 BA11 hnA11 wf hKf hSf
  obtain ⟨wu, rfl, hg10, hg11, hup⟩ := graft2 (fun W => Below V2.heap.size V2 W) hKf.2.1.1 hKf.1.1 hSf.1
  have hz10 := hKf.2.1.2
  have hz11 := hKf.1.2
  have hne10_11 : BA10 ≠ BA11 := fun e => hnA11 (by simp [e])
  have hne11_10 : BA11 ≠ BA10 := fun e => hne10_11 e.symm
  clear hKf hSf
  refine Gen.one 12 (by kernel_rfl) (wpOp_of (by simp only [List.getElem?_toArray, List.getElem?_cons_zero, List.getElem?_cons_succ]; rfl) (by rfl) ?_)
  go_simp
  (try simp only [Act.put, List.setIfInBounds_toArray, List.set_cons_zero, List.set_cons_succ])
  refine ⟨⟨(belowRow (belowRow hup hz10 _) hz11 _), kafter (unhide HKA) (belowRow (belowRow hup hz10 _) hz11 _)⟩, ?_⟩
  refine Gen.one 13 (by kernel_rfl) (wpOp_of (by simp only [List.getElem?_toArray, List.getElem?_cons_zero, List.getElem?_cons_succ]; rfl) (by rfl) ?_)
  go_simp
  (try simp only [Act.put, List.setIfInBounds_toArray, List.set_cons_zero, List.set_cons_succ])
  refine ⟨⟨(belowRow (belowRow hup hz10 _) hz11 _), kafter (unhide HKA) (belowRow (belowRow hup hz10 _) hz11 _)⟩, ?_⟩
  refine Gen.one 14 (by kernel_rfl) (wpOp_of (by simp only [List.getElem?_toArray, List.getElem?_cons_zero, List.getElem?_cons_succ]; rfl) (by rfl) ?_)
  go_simp
  (try simp only [Act.put, List.setIfInBounds_toArray, List.set_cons_zero, List.set_cons_succ])
  refine ⟨⟨(belowRow (belowRow hup hz10 _) hz11 _), kafter (unhide HKA) (belowRow (belowRow hup hz10 _) hz11 _)⟩, ?_⟩
  refine Gen.done (K := (kAnd (kNew V2.heap.size BA10 _) (kAnd (kNew V2.heap.size BA11 _) _))) (by kernel_rfl) ⟨⟨(RowIs.other (RowIs.same hg10 _) hne10_11 _), hz10⟩, ⟨⟨(RowIs.same (IsRow.setRow hg11 _ _) _), hz11⟩, kafter (unhide HKA) (belowRow (belowRow hup hz10 _) hz11 _)⟩⟩ (fun WA hKA => ?_) _
  clear okA hup hg10 hz10 hg11 hz11
  have HK := hide hKA
  have HC := ktells hKA
  (try dsimp only at HC)
  clear hKA
  go_upto_region 6 with (first | (go_at_call 17; refine know_at (by (repeat (first | exact kk (unhide HK) | apply kkbox | apply kkdrew | apply kkdrewN | apply kkalloc))) (fun hKa => ?_); (try simp only [World.size_alloc] at hKa); (try simp only [World.size_drew] at hKa); refine (awake_any _).mono ?_; rintro e w1 ⟨rfl, hb1⟩; have HK := hide (kafter hKa hb1); clear hKa hb1; have HC := ktells (unhide HK); (try dsimp only at HC)) | (go_at_call 24; refine (rightStr_sym _ _ _ _ _).mono ?_; rintro e w1 ⟨rfl, o1, rfl⟩) | (go_at_call 31; refine (refIn_any _ _ _ _).mono ?_; rintro e w2 ⟨rfl, rfl⟩))
  refine know_here (by (repeat (first | exact kk (unhide HK) | apply kkbox | apply kkdrew | apply kkdrewN | apply kkalloc))) ?_
  intro V6 hKB
  (try simp only [World.size_alloc] at hKB)
  (try simp only [World.size_drew] at hKB)
  have HKB := hide hKB
  have HCB := ktells hKB
  (try dsimp only at HCB)
  refine Gen.begin_ [⟨2, 13, #[.int .i64 0, .int .i64 0, .int .i64 0, .int .i64 0], 39⟩, ⟨3, 14, #[.int .i64 0, .int .i64 0, .int .i64 0, .int .i64 0], 39⟩] 4 (by kernel_rfl) hKB (by rfl) ⟨fun x hx => by (simp only [List.mem_cons, List.not_mem_nil, or_false] at hx; rcases hx with rfl | rfl; all_goals exact ⟨_, by rfl, by rfl, by rfl, fun _ _ => by kernel_rfl⟩), by kernel_rfl, fun _ _ _ _ _ => Iff.rfl⟩ (fun okB => ?_)
  clear hKB
  refine Gen.take 0 (v := ?vv33) okB (by simp only [List.getElem?_toArray, List.getElem?_cons_zero]; rfl) (by kernel_rfl) (by kernel_rfl) (by kernel_rfl) (Or.inl ⟨by rfl, ?hh33⟩) ?_
  case hh33 => (intro wg hSw; have hc := ktells hSw; (try dsimp only at hc); go_simp; try with_reducible rfl)
  (try simp only [Act.put, List.setIfInBounds_toArray, List.set_cons_zero, List.set_cons_succ])
  refine Gen.take 1 (v := ?vv34) okB (by simp only [List.getElem?_toArray, List.getElem?_cons_zero, List.getElem?_cons_succ]; rfl) (by kernel_rfl) (by kernel_rfl) (by kernel_rfl) (Or.inl ⟨by rfl, ?hh34⟩) ?_
  case hh34 => (intro wg hSw; have hc := ktells hSw; (try dsimp only at hc); go_simp; try with_reducible rfl)
  (try simp only [Act.put, List.setIfInBounds_toArray, List.set_cons_zero, List.set_cons_succ])
  refine Gen.finish inferInstance Gen.size okB (by kernel_rfl) inferInstance (by simp) ?_
  simp only [Gen.Fin, NewVar.put]
  (try simp only [Act.put, List.setIfInBounds_toArray, List.set_cons_zero, List.set_cons_succ])
  intro BB2 hnB2 BB3 hnB3 wf hKf hSf
  obtain ⟨wu, rfl, hg2, hg3, hup⟩ := graft2 (fun W => Below V6.heap.size V6 W) hKf.2.1.1 hKf.1.1 hSf.1
  have hz2 := hKf.2.1.2
  have hz3 := hKf.1.2
  have hne2_3 : BB2 ≠ BB3 := fun e => hnB3 (by simp [e])
  have hne3_2 : BB3 ≠ BB2 := fun e => hne2_3 e.symm
  clear hKf hSf
  refine Gen.one 4 (by kernel_rfl) (wpOp_of (by simp only [List.getElem?_toArray, List.getElem?_cons_zero, List.getElem?_cons_succ]; rfl) (by rfl) ?_)
  go_simp
  (try simp only [Act.put, List.setIfInBounds_toArray, List.set_cons_zero, List.set_cons_succ])
  refine ⟨⟨(belowRow (belowRow hup hz2 _) hz3 _), kafter (unhide HKB) (belowRow (belowRow hup hz2 _) hz3 _)⟩, ?_⟩
  refine Gen.one 5 (by kernel_rfl) (wpOp_of (by simp only [List.getElem?_toArray, List.getElem?_cons_zero, List.getElem?_cons_succ]; rfl) (by rfl) ?_)
  go_simp
  (try simp only [Act.put, List.setIfInBounds_toArray, List.set_cons_zero, List.set_cons_succ])
  refine ⟨⟨(belowRow (belowRow hup hz2 _) hz3 _), kafter (unhide HKB) (belowRow (belowRow hup hz2 _) hz3 _)⟩, ?_⟩
  refine Gen.done (K := (kAnd (kNew V6.heap.size BB2 _) (kAnd (kNew V6.heap.size BB3 _) _))) (by kernel_rfl) ⟨⟨(RowIs.other (RowIs.same hg2 _) hne2_3 _), hz2⟩, ⟨⟨(RowIs.same (IsRow.setRow hg3 _ _) _), hz3⟩, kafter (unhide HKB) (belowRow (belowRow hup hz2 _) hz3 _)⟩⟩ (fun WB hKB => ?_) _
  clear okB hup hg2 hz2 hg3 hz3
  have HK := hide hKB
  have HC := ktells hKB
  (try dsimp only at HC)
  clear hKB
  obtain ⟨hx, hy, hb, hc, ha, ht', hs', hup⟩ := unhide HK
  have x2 := hx.2
  have x3 := hy.2
  obtain ⟨u, rfl, gx, gy, hu⟩ := graft2 (kAnd (kNew V2.heap.size BA10 _) (kAnd (kNew V2.heap.size BA11 _) (kAnd (kRow (w.heap.size + 1 + 1 + 1 + 1 + 1 + 1 + 1) _) (kAnd (kRow (w.heap.size + 1) _) (kAnd (kRow w.heap.size _) (kUp w)))))) hx.1 hy.1 ⟨hb, hc, ha, ht', hs', hup⟩
  clear hx hy hb hc ha ht' hs' hup HK HC
  have HC := ktells hu
  (try dsimp only at HC)
  have zx := gx.lt
  have zy := gy.lt
  have n2_0 : BA10 ≠ BB2 := by omega
  have m2_0 : BB2 ≠ BA10 := by omega
  have n3_0 : BA10 ≠ BB3 := by omega
  have m3_0 : BB3 ≠ BA10 := by omega
  have n2_1 : BA11 ≠ BB2 := by omega
  have m2_1 : BB2 ≠ BA11 := by omega
  have n3_1 : BA11 ≠ BB3 := by omega
  have m3_1 : BB3 ≠ BA11 := by omega
  have n2_2 : w.heap.size + 1 + 1 + 1 + 1 + 1 + 1 + 1 ≠ BB2 := by omega
  have m2_2 : BB2 ≠ w.heap.size + 1 + 1 + 1 + 1 + 1 + 1 + 1 := by omega
  have n3_2 : w.heap.size + 1 + 1 + 1 + 1 + 1 + 1 + 1 ≠ BB3 := by omega
  have m3_2 : BB3 ≠ w.heap.size + 1 + 1 + 1 + 1 + 1 + 1 + 1 := by omega
  have n2_3 : w.heap.size + 1 ≠ BB2 := by omega
  have m2_3 : BB2 ≠ w.heap.size + 1 := by omega
  have n3_3 : w.heap.size + 1 ≠ BB3 := by omega
  have m3_3 : BB3 ≠ w.heap.size + 1 := by omega
  have n2_4 : w.heap.size ≠ BB2 := by omega
  have m2_4 : BB2 ≠ w.heap.size := by omega
  have n3_4 : w.heap.size ≠ BB3 := by omega
  have m3_4 : BB3 ≠ w.heap.size := by omega
  have gw2 : w.heap.size ≤ BB2 := by omega
  have gw3 : w.heap.size ≤ BB3 := by omega
  go_upto_region 9 with fail
  obtain ⟨hb, hc, ha, ht', hs', hup⟩ := hu
  refine know_here (K := (kAnd (kRow BB2 _) (kAnd (kRow BB3 _) (kAnd (kNew V2.heap.size BA10 _) (kAnd (kNew V2.heap.size BA11 _) (kAnd (kRow (w.heap.size + 1 + 1 + 1 + 1 + 1 + 1 + 1) _) (kAnd (kRow (w.heap.size + 1) _) (kAnd (kRow w.heap.size _) (kUp w))))))))) ⟨⟨(RowIs.same gx _).other hne2_3 _, RowIs.same (gy.setRow _ _) _, ⟨(hb.1.other n2_0 _).other n3_0 _, hb.2⟩, ⟨(hc.1.other n2_1 _).other n3_1 _, hc.2⟩, (ha.other n2_2 _).other n3_2 _, (ht'.other n2_3 _).other n3_3 _, (hs'.other n2_4 _).other n3_4 _, belowRow (belowRow hup gw2 _) gw3 _⟩, inferInstance⟩ ?_
  intro WY hKY
  have HK := hide hKY
  clear HC gx gy hb hc ha ht' hs' hup zx zy
  have HC := ktells hKY
  (try dsimp only at HC)
  clear hKY
  go_wp2_with (first | (go_at_call 17; refine know_at (by (repeat (first | exact kk (unhide HK) | apply kkbox | apply kkdrew | apply kkdrewN | apply kkalloc))) (fun hKa => ?_); (try simp only [World.size_alloc] at hKa); (try simp only [World.size_drew] at hKa); refine (awake_any _).mono ?_; rintro e w1 ⟨rfl, hb1⟩; have HK := hide (kafter hKa hb1); clear hKa hb1; have HC := ktells (unhide HK); (try dsimp only at HC)) | (go_at_call 24; refine (rightStr_sym _ _ _ _ _).mono ?_; rintro e w1 ⟨rfl, o1, rfl⟩) | (go_at_call 31; refine (refIn_any _ _ _ _).mono ?_; rintro e w2 ⟨rfl, rfl⟩))
  all_goals (go_ret; exact ⟨rfl, kup (unhide HK)⟩)

set_option maxRecDepth 100000 in
set_option maxHeartbeats 12800000 in
theorem heats5bk (M H S G M' H' S' G' k a1 a2 a3 a4 ea b1 b2 b3 b4 c1 c2 c3 c4 eb : Int) (HH : Hid (heatR ⟨M, H, S, G⟩ k = (⟨a1, a2, a3, a4⟩, ea))) (HE : Hid (exR ⟨M, H, S, G⟩ ⟨M', H', S', G'⟩ k = (⟨b1, b2, b3, b4⟩, ⟨c1, c2, c3, c4⟩, eb))) (hs : strOk ⟨M, H, S, G⟩ = true) (hin : inB k (-5000000000) 5000000000 = true) (ht : strOk ⟨M', H', S', G'⟩ = true) (hx : strOk ⟨M, H + k, S, G⟩ = false) (za : a1 = 0 ∧ a2 = 0 ∧ a3 = 0 ∧ a4 = 0) (ea' : ea = 2) (hk : decide (k < 0) = true) (zb : (b1 = 0 ∧ b2 = 0 ∧ b3 = 0 ∧ b4 = 0) ∧ c1 = 0 ∧ c2 = 0 ∧ c3 = 0 ∧ c4 = 0) (eb' : eb = 2) (w : World) :
    Calls Try.prog 11 #[.agg #[.int .i64 M, .int .i64 H, .int .i64 S, .int .i64 G], .agg #[.int .i64 M', .int .i64 H', .int .i64 S', .int .i64 G'], .int .i64 k] w fun e w' => e = .returned (.bool true) ∧ Below w.heap.size w w' := by
  have HK : Hid (kUp w w) := hide (Below.refl _ _)
  have Bs := strOk_iff.1 hs
  obtain ⟨x0, x1, x2, x3, x4, x5, x6, x7⟩ := Bs
  dsimp only at x0 x1 x2 x3 x4 x5 x6 x7
  obtain ⟨k0, k1⟩ := inB_iff.1 hin
  have w1' : IntKind.i64.wrap (H + k) = H + k := w64 (by omega) (by omega)
  have w2' : IntKind.i64.wrap (H - k) = H - k := w64 (by omega) (by omega)
  have Bt := strOk_iff.1 ht
  obtain ⟨y0, y1, y2, y3, y4, y5, y6, y7⟩ := Bt
  dsimp only at y0 y1 y2 y3 y4 y5 y6 y7
  have w3' : IntKind.i64.wrap (H' + k) = H' + k := w64 (by omega) (by omega)
  obtain ⟨rfl, rfl, rfl, rfl⟩ := za
  obtain ⟨⟨rfl, rfl, rfl, rfl⟩, rfl, rfl, rfl, rfl⟩ := zb
  subst ea' eb'
  go_enter Try.func11, Try.ntmps11
  go_upto_region 2 with (first | (go_at_call 26; refine (mkStr_is _ _ _ _ _).mono ?_; rintro e w1 ⟨rfl, o1, o2, rfl⟩) | (go_at_call 44; refine (heated_is _ _ _ _ _ _ _ (unhide HH) _).mono ?_; rintro e w2 ⟨rfl, o3, o4, o5, rfl⟩))
  refine know_here (by (repeat (first | exact kk (unhide HK) | apply kkbox | apply kkdrew | apply kkdrewN | apply kkalloc))) ?_
  intro V2 hKA
  (try simp only [World.size_alloc] at hKA)
  (try simp only [World.size_drew] at hKA)
  have HKA := hide hKA
  have HCA := ktells hKA
  (try dsimp only at HCA)
  refine Gen.begin_ [⟨10, 9, #[.int .i64 0, .int .i64 0, .int .i64 0, .int .i64 0], 42⟩, ⟨11, 10, #[.int .i64 0, .int .i64 0, .int .i64 0, .int .i64 0], 42⟩] 13 (by kernel_rfl) hKA (by rfl) ⟨fun x hx => by (simp only [List.mem_cons, List.not_mem_nil, or_false] at hx; rcases hx with rfl | rfl; all_goals exact ⟨_, by rfl, by rfl, by rfl, fun _ _ => by kernel_rfl⟩), by kernel_rfl, fun _ _ _ _ _ => Iff.rfl⟩ (fun okA => ?_)
  clear hKA
  refine Gen.take 0 (v := ?vv35) okA (by simp only [List.getElem?_toArray, List.getElem?_cons_zero]; rfl) (by kernel_rfl) (by kernel_rfl) (by kernel_rfl) (Or.inl ⟨by rfl, ?hh35⟩) ?_
  case hh35 => (intro wg hSw; have hc := ktells hSw; (try dsimp only at hc); go_simp; try with_reducible rfl)
  (try simp only [Act.put, List.setIfInBounds_toArray, List.set_cons_zero, List.set_cons_succ])
  refine Gen.take 2 (v := ?vv36) okA (by simp only [List.getElem?_toArray, List.getElem?_cons_zero, List.getElem?_cons_succ]; rfl) (by kernel_rfl) (by kernel_rfl) (by kernel_rfl) (Or.inl ⟨by rfl, ?hh36⟩) ?_
  case hh36 => (intro wg hSw; have hc := ktells hSw; (try dsimp only at hc); go_simp; try with_reducible rfl)
  (try simp only [Act.put, List.setIfInBounds_toArray, List.set_cons_zero, List.set_cons_succ])
  refine Gen.take 4 (v := ?vv37) okA (by simp only [List.getElem?_toArray, List.getElem?_cons_zero, List.getElem?_cons_succ]; rfl) (by kernel_rfl) (by kernel_rfl) (by kernel_rfl) (Or.inl ⟨by rfl, ?hh37⟩) ?_
  case hh37 => (intro wg hSw; have hc := ktells hSw; (try dsimp only at hc); go_simp; try with_reducible rfl)
  (try simp only [Act.put, List.setIfInBounds_toArray, List.set_cons_zero, List.set_cons_succ])
  refine Gen.step inferInstance Gen.size 1 okA (by kernel_rfl) inferInstance (by simp) (fun wg hKg hSg => wpOp_of (by simp only [List.getElem?_toArray, List.getElem?_cons_zero, List.getElem?_cons_succ]; rfl) (by rfl) ?_)
  go_simp
  refine (mkStr_is _ _ _ _ _).mono ?_
  rintro e wh ⟨rfl, o1, o2, rfl⟩
  (try dsimp only)
  refine Gen.stay rfl hKg (by (repeat (first | exact Below.refl _ _ | refine Below.allocs ?_ _ | refine Below.drew ?_ | refine Below.drewNs ?_ _))) ?_
  clear hKg hSg
  refine Gen.step inferInstance Gen.size 3 okA (by kernel_rfl) inferInstance (by simp) (fun wg hKg hSg => wpOp_of (by simp only [List.getElem?_toArray, List.getElem?_cons_zero, List.getElem?_cons_succ]; rfl) (by rfl) ?_)
  go_simp
  refine (mkStr_is _ _ _ _ _).mono ?_
  rintro e wh ⟨rfl, o1, o2, rfl⟩
  (try dsimp only)
  refine Gen.stay rfl hKg (by (repeat (first | exact Below.refl _ _ | refine Below.allocs ?_ _ | refine Below.drew ?_ | refine Below.drewNs ?_ _))) ?_
  clear hKg hSg
  refine Gen.step inferInstance Gen.size 5 okA (by kernel_rfl) inferInstance (by simp) (fun wg hKg hSg => wpOp_of (by simp only [List.getElem?_toArray, List.getElem?_cons_zero, List.getElem?_cons_succ]; rfl) (by rfl) ?_)
  go_simp
  refine (exchange_is _ _ _ _ _ _ _ _ _ _ _ _ _ _ _ _ _ _ (unhide HE) _).mono ?_
  rintro e wh ⟨rfl, hb1⟩
  (try dsimp only)
  refine Gen.stay rfl hKg hb1 ?_
  clear hKg hSg
  clear hb1
  refine Gen.take 6 (v := ?vv38) okA (by simp only [List.getElem?_toArray, List.getElem?_cons_zero, List.getElem?_cons_succ]; rfl) (by kernel_rfl) (by kernel_rfl) (by kernel_rfl) (Or.inl ⟨by rfl, ?hh38⟩) ?_
  case hh38 => (intro wg hSw; have hc := ktells hSw; (try dsimp only at hc); go_simp; try with_reducible rfl)
  (try simp only [Act.put, List.setIfInBounds_toArray, List.set_cons_zero, List.set_cons_succ])
  refine Gen.take 7 (v := ?vv39) okA (by simp only [List.getElem?_toArray, List.getElem?_cons_zero, List.getElem?_cons_succ]; rfl) (by kernel_rfl) (by kernel_rfl) (by kernel_rfl) (Or.inl ⟨by rfl, ?hh39⟩) ?_
  case hh39 => (intro wg hSw; have hc := ktells hSw; (try dsimp only at hc); go_simp; try with_reducible rfl)
  (try simp only [Act.put, List.setIfInBounds_toArray, List.set_cons_zero, List.set_cons_succ])
  refine Gen.take 8 (v := ?vv40) okA (by simp only [List.getElem?_toArray, List.getElem?_cons_zero, List.getElem?_cons_succ]; rfl) (by kernel_rfl) (by kernel_rfl) (by kernel_rfl) (Or.inl ⟨by rfl, ?hh40⟩) ?_
  case hh40 => (intro wg hSw; have hc := ktells hSw; (try dsimp only at hc); go_simp; try with_reducible rfl)
  (try simp only [Act.put, List.setIfInBounds_toArray, List.set_cons_zero, List.set_cons_succ])
  refine Gen.take 9 (v := ?vv41) okA (by simp only [List.getElem?_toArray, List.getElem?_cons_zero, List.getElem?_cons_succ]; rfl) (by kernel_rfl) (by kernel_rfl) (by kernel_rfl) (Or.inl ⟨by rfl, ?hh41⟩) ?_
  case hh41 => (intro wg hSw; have hc := ktells hSw; (try dsimp only at hc); go_simp; try with_reducible rfl)
  (try simp only [Act.put, List.setIfInBounds_toArray, List.set_cons_zero, List.set_cons_succ])
  refine Gen.finish inferInstance Gen.size okA (by kernel_rfl) inferInstance (by simp) ?_
  simp only [Gen.Fin, NewVar.put]
  (try simp only [Act.put, List.setIfInBounds_toArray, List.set_cons_zero, List.set_cons_succ])
  intro BA10 hnA10 BA11 hnA11 wf hKf hSf
  obtain ⟨wu, rfl, hg10, hg11, hup⟩ := graft2 (fun W => Below V2.heap.size V2 W) hKf.2.1.1 hKf.1.1 hSf.1
  have hz10 := hKf.2.1.2
  have hz11 := hKf.1.2
  have hne10_11 : BA10 ≠ BA11 := fun e => hnA11 (by simp [e])
  have hne11_10 : BA11 ≠ BA10 := fun e => hne10_11 e.symm
  clear hKf hSf
  refine Gen.one 12 (by kernel_rfl) (wpOp_of (by simp only [List.getElem?_toArray, List.getElem?_cons_zero, List.getElem?_cons_succ]; rfl) (by rfl) ?_)
  go_simp
  (try simp only [Act.put, List.setIfInBounds_toArray, List.set_cons_zero, List.set_cons_succ])
  refine ⟨⟨(belowRow (belowRow hup hz10 _) hz11 _), kafter (unhide HKA) (belowRow (belowRow hup hz10 _) hz11 _)⟩, ?_⟩
  refine Gen.one 13 (by kernel_rfl) (wpOp_of (by simp only [List.getElem?_toArray, List.getElem?_cons_zero, List.getElem?_cons_succ]; rfl) (by rfl) ?_)
  go_simp
  (try simp only [Act.put, List.setIfInBounds_toArray, List.set_cons_zero, List.set_cons_succ])
  refine ⟨⟨(belowRow (belowRow hup hz10 _) hz11 _), kafter (unhide HKA) (belowRow (belowRow hup hz10 _) hz11 _)⟩, ?_⟩
  refine Gen.one 14 (by kernel_rfl) (wpOp_of (by simp only [List.getElem?_toArray, List.getElem?_cons_zero, List.getElem?_cons_succ]; rfl) (by rfl) ?_)
  go_simp
  (try simp only [Act.put, List.setIfInBounds_toArray, List.set_cons_zero, List.set_cons_succ])
  refine ⟨⟨(belowRow (belowRow hup hz10 _) hz11 _), kafter (unhide HKA) (belowRow (belowRow hup hz10 _) hz11 _)⟩, ?_⟩
  refine Gen.done (K := (kAnd (kNew V2.heap.size BA10 _) (kAnd (kNew V2.heap.size BA11 _) _))) (by kernel_rfl) ⟨⟨(RowIs.other (RowIs.same hg10 _) hne10_11 _), hz10⟩, ⟨⟨(RowIs.same (IsRow.setRow hg11 _ _) _), hz11⟩, kafter (unhide HKA) (belowRow (belowRow hup hz10 _) hz11 _)⟩⟩ (fun WA hKA => ?_) _
  clear okA hup hg10 hz10 hg11 hz11
  have HK := hide hKA
  have HC := ktells hKA
  (try dsimp only at HC)
  clear hKA
  go_upto_region 6 with (first | (go_at_call 17; refine know_at (by (repeat (first | exact kk (unhide HK) | apply kkbox | apply kkdrew | apply kkdrewN | apply kkalloc))) (fun hKa => ?_); (try simp only [World.size_alloc] at hKa); (try simp only [World.size_drew] at hKa); refine (awake_any _).mono ?_; rintro e w1 ⟨rfl, hb1⟩; have HK := hide (kafter hKa hb1); clear hKa hb1; have HC := ktells (unhide HK); (try dsimp only at HC)) | (go_at_call 24; refine (rightStr_sym _ _ _ _ _).mono ?_; rintro e w1 ⟨rfl, o1, rfl⟩) | (go_at_call 31; refine (refIn_any _ _ _ _).mono ?_; rintro e w2 ⟨rfl, rfl⟩))
  refine know_here (by (repeat (first | exact kk (unhide HK) | apply kkbox | apply kkdrew | apply kkdrewN | apply kkalloc))) ?_
  intro V6 hKB
  (try simp only [World.size_alloc] at hKB)
  (try simp only [World.size_drew] at hKB)
  have HKB := hide hKB
  have HCB := ktells hKB
  (try dsimp only at HCB)
  refine Gen.begin_ [⟨2, 13, #[.int .i64 0, .int .i64 0, .int .i64 0, .int .i64 0], 39⟩, ⟨3, 14, #[.int .i64 0, .int .i64 0, .int .i64 0, .int .i64 0], 39⟩] 4 (by kernel_rfl) hKB (by rfl) ⟨fun x hx => by (simp only [List.mem_cons, List.not_mem_nil, or_false] at hx; rcases hx with rfl | rfl; all_goals exact ⟨_, by rfl, by rfl, by rfl, fun _ _ => by kernel_rfl⟩), by kernel_rfl, fun _ _ _ _ _ => Iff.rfl⟩ (fun okB => ?_)
  clear hKB
  refine Gen.take 0 (v := ?vv42) okB (by simp only [List.getElem?_toArray, List.getElem?_cons_zero]; rfl) (by kernel_rfl) (by kernel_rfl) (by kernel_rfl) (Or.inl ⟨by rfl, ?hh42⟩) ?_
  case hh42 => (intro wg hSw; have hc := ktells hSw; (try dsimp only at hc); go_simp; try with_reducible rfl)
  (try simp only [Act.put, List.setIfInBounds_toArray, List.set_cons_zero, List.set_cons_succ])
  refine Gen.take 1 (v := ?vv43) okB (by simp only [List.getElem?_toArray, List.getElem?_cons_zero, List.getElem?_cons_succ]; rfl) (by kernel_rfl) (by kernel_rfl) (by kernel_rfl) (Or.inl ⟨by rfl, ?hh43⟩) ?_
  case hh43 => (intro wg hSw; have hc := ktells hSw; (try dsimp only at hc); go_simp; try with_reducible rfl)
  (try simp only [Act.put, List.setIfInBounds_toArray, List.set_cons_zero, List.set_cons_succ])
  refine Gen.finish inferInstance Gen.size okB (by kernel_rfl) inferInstance (by simp) ?_
  simp only [Gen.Fin, NewVar.put]
  (try simp only [Act.put, List.setIfInBounds_toArray, List.set_cons_zero, List.set_cons_succ])
  intro BB2 hnB2 BB3 hnB3 wf hKf hSf
  obtain ⟨wu, rfl, hg2, hg3, hup⟩ := graft2 (fun W => Below V6.heap.size V6 W) hKf.2.1.1 hKf.1.1 hSf.1
  have hz2 := hKf.2.1.2
  have hz3 := hKf.1.2
  have hne2_3 : BB2 ≠ BB3 := fun e => hnB3 (by simp [e])
  have hne3_2 : BB3 ≠ BB2 := fun e => hne2_3 e.symm
  clear hKf hSf
  refine Gen.one 4 (by kernel_rfl) (wpOp_of (by simp only [List.getElem?_toArray, List.getElem?_cons_zero, List.getElem?_cons_succ]; rfl) (by rfl) ?_)
  go_simp
  (try simp only [Act.put, List.setIfInBounds_toArray, List.set_cons_zero, List.set_cons_succ])
  refine ⟨⟨(belowRow (belowRow hup hz2 _) hz3 _), kafter (unhide HKB) (belowRow (belowRow hup hz2 _) hz3 _)⟩, ?_⟩
  refine Gen.one 5 (by kernel_rfl) (wpOp_of (by simp only [List.getElem?_toArray, List.getElem?_cons_zero, List.getElem?_cons_succ]; rfl) (by rfl) ?_)
  go_simp
  (try simp only [Act.put, List.setIfInBounds_toArray, List.set_cons_zero, List.set_cons_succ])
  refine ⟨⟨(belowRow (belowRow hup hz2 _) hz3 _), kafter (unhide HKB) (belowRow (belowRow hup hz2 _) hz3 _)⟩, ?_⟩
  refine Gen.done (K := (kAnd (kNew V6.heap.size BB2 _) (kAnd (kNew V6.heap.size BB3 _) _))) (by kernel_rfl) ⟨⟨(RowIs.other (RowIs.same hg2 _) hne2_3 _), hz2⟩, ⟨⟨(RowIs.same (IsRow.setRow hg3 _ _) _), hz3⟩, kafter (unhide HKB) (belowRow (belowRow hup hz2 _) hz3 _)⟩⟩ (fun WB hKB => ?_) _
  clear okB hup hg2 hz2 hg3 hz3
  have HK := hide hKB
  have HC := ktells hKB
  (try dsimp only at HC)
  clear hKB
  obtain ⟨hx, hy, hb, hc, ha, ht', hs', hup⟩ := unhide HK
  have x2 := hx.2
  have x3 := hy.2
  obtain ⟨u, rfl, gx, gy, hu⟩ := graft2 (kAnd (kNew V2.heap.size BA10 _) (kAnd (kNew V2.heap.size BA11 _) (kAnd (kRow (w.heap.size + 1 + 1 + 1 + 1 + 1 + 1 + 1) _) (kAnd (kRow (w.heap.size + 1) _) (kAnd (kRow w.heap.size _) (kUp w)))))) hx.1 hy.1 ⟨hb, hc, ha, ht', hs', hup⟩
  clear hx hy hb hc ha ht' hs' hup HK HC
  have HC := ktells hu
  (try dsimp only at HC)
  have zx := gx.lt
  have zy := gy.lt
  have n2_0 : BA10 ≠ BB2 := by omega
  have m2_0 : BB2 ≠ BA10 := by omega
  have n3_0 : BA10 ≠ BB3 := by omega
  have m3_0 : BB3 ≠ BA10 := by omega
  have n2_1 : BA11 ≠ BB2 := by omega
  have m2_1 : BB2 ≠ BA11 := by omega
  have n3_1 : BA11 ≠ BB3 := by omega
  have m3_1 : BB3 ≠ BA11 := by omega
  have n2_2 : w.heap.size + 1 + 1 + 1 + 1 + 1 + 1 + 1 ≠ BB2 := by omega
  have m2_2 : BB2 ≠ w.heap.size + 1 + 1 + 1 + 1 + 1 + 1 + 1 := by omega
  have n3_2 : w.heap.size + 1 + 1 + 1 + 1 + 1 + 1 + 1 ≠ BB3 := by omega
  have m3_2 : BB3 ≠ w.heap.size + 1 + 1 + 1 + 1 + 1 + 1 + 1 := by omega
  have n2_3 : w.heap.size + 1 ≠ BB2 := by omega
  have m2_3 : BB2 ≠ w.heap.size + 1 := by omega
  have n3_3 : w.heap.size + 1 ≠ BB3 := by omega
  have m3_3 : BB3 ≠ w.heap.size + 1 := by omega
  have n2_4 : w.heap.size ≠ BB2 := by omega
  have m2_4 : BB2 ≠ w.heap.size := by omega
  have n3_4 : w.heap.size ≠ BB3 := by omega
  have m3_4 : BB3 ≠ w.heap.size := by omega
  have gw2 : w.heap.size ≤ BB2 := by omega
  have gw3 : w.heap.size ≤ BB3 := by omega
  go_upto_region 9 with fail
  obtain ⟨hb, hc, ha, ht', hs', hup⟩ := hu
  refine know_here (K := (kAnd (kRow BB2 _) (kAnd (kRow BB3 _) (kAnd (kNew V2.heap.size BA10 _) (kAnd (kNew V2.heap.size BA11 _) (kAnd (kRow (w.heap.size + 1 + 1 + 1 + 1 + 1 + 1 + 1) _) (kAnd (kRow (w.heap.size + 1) _) (kAnd (kRow w.heap.size _) (kUp w))))))))) ⟨⟨(RowIs.same gx _).other hne2_3 _, RowIs.same (gy.setRow _ _) _, ⟨(hb.1.other n2_0 _).other n3_0 _, hb.2⟩, ⟨(hc.1.other n2_1 _).other n3_1 _, hc.2⟩, (ha.other n2_2 _).other n3_2 _, (ht'.other n2_3 _).other n3_3 _, (hs'.other n2_4 _).other n3_4 _, belowRow (belowRow hup gw2 _) gw3 _⟩, inferInstance⟩ ?_
  intro WY hKY
  have HK := hide hKY
  clear HC gx gy hb hc ha ht' hs' hup zx zy
  have HC := ktells hKY
  (try dsimp only at HC)
  clear hKY
  go_upto_region 17 with (first | (go_at_call 17; refine know_at (by (repeat (first | exact kk (unhide HK) | apply kkbox | apply kkdrew | apply kkdrewN | apply kkalloc))) (fun hKa => ?_); (try simp only [World.size_alloc] at hKa); (try simp only [World.size_drew] at hKa); refine (awake_any _).mono ?_; rintro e w1 ⟨rfl, hb1⟩; have HK := hide (kafter hKa hb1); clear hKa hb1; have HC := ktells (unhide HK); (try dsimp only at HC)) | (go_at_call 24; refine (rightStr_sym _ _ _ _ _).mono ?_; rintro e w1 ⟨rfl, o1, rfl⟩) | (go_at_call 31; refine (refIn_any _ _ _ _).mono ?_; rintro e w2 ⟨rfl, rfl⟩))
  refine know_here (by (repeat (first | exact kk (unhide HK) | apply kkbox | apply kkdrew | apply kkdrewN | apply kkalloc))) ?_
  intro W16 hK16
  have HK := hide hK16
  clear HC
  have HC := ktells hK16
  (try dsimp only at HC)
  clear hK16
  obtain ⟨hx, hy, hb, hc, ha, ht', hs', hup⟩ := unhide HK
  obtain ⟨u, rfl, gx, gy, hu⟩ := graft2 (kAnd (kNew V2.heap.size BA10 _) (kAnd (kNew V2.heap.size BA11 _) (kAnd (kRow (w.heap.size + 1 + 1 + 1 + 1 + 1 + 1 + 1) _) (kAnd (kRow (w.heap.size + 1) _) (kAnd (kRow w.heap.size _) (kUp w)))))) hx hy ⟨hb, hc, ha, ht', hs', hup⟩
  clear hx hy hb hc ha ht' hs' hup HK HC
  have HC := ktells hu
  (try dsimp only at HC)
  have zx := gx.lt
  have zy := gy.lt
  go_wp2_with fail
  go_region
  go_upto_region 20 with fail
  obtain ⟨hb, hc, ha, ht', hs', hup⟩ := hu
  refine know_here (K := (kAnd (kRow BB2 _) (kAnd (kRow BB3 _) (kAnd (kNew V2.heap.size BA10 _) (kAnd (kNew V2.heap.size BA11 _) (kAnd (kRow (w.heap.size + 1 + 1 + 1 + 1 + 1 + 1 + 1) _) (kAnd (kRow (w.heap.size + 1) _) (kAnd (kRow w.heap.size _) (kUp w))))))))) ⟨Keeps.keep ((Below.refl _ _).drew) (show (kAnd (kRow BB2 _) (kAnd (kRow BB3 _) (kAnd (kNew V2.heap.size BA10 _) (kAnd (kNew V2.heap.size BA11 _) (kAnd (kRow (w.heap.size + 1 + 1 + 1 + 1 + 1 + 1 + 1) _) (kAnd (kRow (w.heap.size + 1) _) (kAnd (kRow w.heap.size _) (kUp w)))))))) _ from ⟨(RowIs.same gx _).other hne2_3 _, RowIs.same (gy.setRow _ _) _, ⟨(hb.1.other n2_0 _).other n3_0 _, hb.2⟩, ⟨(hc.1.other n2_1 _).other n3_1 _, hc.2⟩, (ha.other n2_2 _).other n3_2 _, (ht'.other n2_3 _).other n3_3 _, (hs'.other n2_4 _).other n3_4 _, belowRow (belowRow hup gw2 _) gw3 _⟩), inferInstance⟩ ?_
  intro WZ hKZ
  have HK := hide hKZ
  clear HC gx gy hb hc ha ht' hs' hup zx zy
  have HC := ktells hKZ
  (try dsimp only at HC)
  clear hKZ
  go_wp2_with (first | (go_at_call 17; refine know_at (by (repeat (first | exact kk (unhide HK) | apply kkbox | apply kkdrew | apply kkdrewN | apply kkalloc))) (fun hKa => ?_); (try simp only [World.size_alloc] at hKa); (try simp only [World.size_drew] at hKa); refine (awake_any _).mono ?_; rintro e w1 ⟨rfl, hb1⟩; have HK := hide (kafter hKa hb1); clear hKa hb1; have HC := ktells (unhide HK); (try dsimp only at HC)) | (go_at_call 24; refine (rightStr_sym _ _ _ _ _).mono ?_; rintro e w1 ⟨rfl, o1, rfl⟩) | (go_at_call 31; refine (refIn_any _ _ _ _).mono ?_; rintro e w2 ⟨rfl, rfl⟩))
  all_goals (go_ret; exact ⟨rfl, kup (unhide HK)⟩)

set_option maxRecDepth 100000 in
set_option maxHeartbeats 12800000 in
theorem heats5bx (M H S G M' H' S' G' k a1 a2 a3 a4 ea b1 b2 b3 b4 c1 c2 c3 c4 eb : Int) (HH : Hid (heatR ⟨M, H, S, G⟩ k = (⟨a1, a2, a3, a4⟩, ea))) (HE : Hid (exR ⟨M, H, S, G⟩ ⟨M', H', S', G'⟩ k = (⟨b1, b2, b3, b4⟩, ⟨c1, c2, c3, c4⟩, eb))) (hs : strOk ⟨M, H, S, G⟩ = true) (hin : inB k (-5000000000) 5000000000 = true) (ht : strOk ⟨M', H', S', G'⟩ = true) (hx : strOk ⟨M, H + k, S, G⟩ = false) (za : a1 = 0 ∧ a2 = 0 ∧ a3 = 0 ∧ a4 = 0) (ea' : ea = 2) (hk : decide (k < 0) = false) (hx' : strOk ⟨M, H - k, S, G⟩ = false) (zb : (b1 = 0 ∧ b2 = 0 ∧ b3 = 0 ∧ b4 = 0) ∧ c1 = 0 ∧ c2 = 0 ∧ c3 = 0 ∧ c4 = 0) (eb' : eb = 2) (w : World) :
    Calls Try.prog 11 #[.agg #[.int .i64 M, .int .i64 H, .int .i64 S, .int .i64 G], .agg #[.int .i64 M', .int .i64 H', .int .i64 S', .int .i64 G'], .int .i64 k] w fun e w' => e = .returned (.bool true) ∧ Below w.heap.size w w' := by
  have HK : Hid (kUp w w) := hide (Below.refl _ _)
  have Bs := strOk_iff.1 hs
  obtain ⟨x0, x1, x2, x3, x4, x5, x6, x7⟩ := Bs
  dsimp only at x0 x1 x2 x3 x4 x5 x6 x7
  obtain ⟨k0, k1⟩ := inB_iff.1 hin
  have w1' : IntKind.i64.wrap (H + k) = H + k := w64 (by omega) (by omega)
  have w2' : IntKind.i64.wrap (H - k) = H - k := w64 (by omega) (by omega)
  have Bt := strOk_iff.1 ht
  obtain ⟨y0, y1, y2, y3, y4, y5, y6, y7⟩ := Bt
  dsimp only at y0 y1 y2 y3 y4 y5 y6 y7
  have w3' : IntKind.i64.wrap (H' + k) = H' + k := w64 (by omega) (by omega)
  obtain ⟨rfl, rfl, rfl, rfl⟩ := za
  obtain ⟨⟨rfl, rfl, rfl, rfl⟩, rfl, rfl, rfl, rfl⟩ := zb
  subst ea' eb'
  go_enter Try.func11, Try.ntmps11
  go_upto_region 2 with (first | (go_at_call 26; refine (mkStr_is _ _ _ _ _).mono ?_; rintro e w1 ⟨rfl, o1, o2, rfl⟩) | (go_at_call 44; refine (heated_is _ _ _ _ _ _ _ (unhide HH) _).mono ?_; rintro e w2 ⟨rfl, o3, o4, o5, rfl⟩))
  refine know_here (by (repeat (first | exact kk (unhide HK) | apply kkbox | apply kkdrew | apply kkdrewN | apply kkalloc))) ?_
  intro V2 hKA
  (try simp only [World.size_alloc] at hKA)
  (try simp only [World.size_drew] at hKA)
  have HKA := hide hKA
  have HCA := ktells hKA
  (try dsimp only at HCA)
  refine Gen.begin_ [⟨10, 9, #[.int .i64 0, .int .i64 0, .int .i64 0, .int .i64 0], 42⟩, ⟨11, 10, #[.int .i64 0, .int .i64 0, .int .i64 0, .int .i64 0], 42⟩] 13 (by kernel_rfl) hKA (by rfl) ⟨fun x hx => by (simp only [List.mem_cons, List.not_mem_nil, or_false] at hx; rcases hx with rfl | rfl; all_goals exact ⟨_, by rfl, by rfl, by rfl, fun _ _ => by kernel_rfl⟩), by kernel_rfl, fun _ _ _ _ _ => Iff.rfl⟩ (fun okA => ?_)
  clear hKA
  refine Gen.take 0 (v := ?vv44) okA (by simp only [List.getElem?_toArray, List.getElem?_cons_zero]; rfl) (by kernel_rfl) (by kernel_rfl) (by kernel_rfl) (Or.inl ⟨by rfl, ?hh44⟩) ?_
  case hh44 => (intro wg hSw; have hc := ktells hSw; (try dsimp only at hc); go_simp; try with_reducible rfl)
  (try simp only [Act.put, List.setIfInBounds_toArray, List.set_cons_zero, List.set_cons_succ])
  refine Gen.take 2 (v := ?vv45) okA (by simp only [List.getElem?_toArray, List.getElem?_cons_zero, List.getElem?_cons_succ]; rfl) (by kernel_rfl) (by kernel_rfl) (by kernel_rfl) (Or.inl ⟨by rfl, ?hh45⟩) ?_
  case hh45 => (intro wg hSw; have hc := ktells hSw; (try dsimp only at hc); go_simp; try with_reducible rfl)
  (try simp only [Act.put, List.setIfInBounds_toArray, List.set_cons_zero, List.set_cons_succ])
  refine Gen.take 4 (v := ?vv46) okA (by simp only [List.getElem?_toArray, List.getElem?_cons_zero, List.getElem?_cons_succ]; rfl) (by kernel_rfl) (by kernel_rfl) (by kernel_rfl) (Or.inl ⟨by rfl, ?hh46⟩) ?_
  case hh46 => (intro wg hSw; have hc := ktells hSw; (try dsimp only at hc); go_simp; try with_reducible rfl)
  (try simp only [Act.put, List.setIfInBounds_toArray, List.set_cons_zero, List.set_cons_succ])
  refine Gen.step inferInstance Gen.size 1 okA (by kernel_rfl) inferInstance (by simp) (fun wg hKg hSg => wpOp_of (by simp only [List.getElem?_toArray, List.getElem?_cons_zero, List.getElem?_cons_succ]; rfl) (by rfl) ?_)
  go_simp
  refine (mkStr_is _ _ _ _ _).mono ?_
  rintro e wh ⟨rfl, o1, o2, rfl⟩
  (try dsimp only)
  refine Gen.stay rfl hKg (by (repeat (first | exact Below.refl _ _ | refine Below.allocs ?_ _ | refine Below.drew ?_ | refine Below.drewNs ?_ _))) ?_
  clear hKg hSg
  refine Gen.step inferInstance Gen.size 3 okA (by kernel_rfl) inferInstance (by simp) (fun wg hKg hSg => wpOp_of (by simp only [List.getElem?_toArray, List.getElem?_cons_zero, List.getElem?_cons_succ]; rfl) (by rfl) ?_)
  go_simp
  refine (mkStr_is _ _ _ _ _).mono ?_
  rintro e wh ⟨rfl, o1, o2, rfl⟩
  (try dsimp only)
  refine Gen.stay rfl hKg (by (repeat (first | exact Below.refl _ _ | refine Below.allocs ?_ _ | refine Below.drew ?_ | refine Below.drewNs ?_ _))) ?_
  clear hKg hSg
  refine Gen.step inferInstance Gen.size 5 okA (by kernel_rfl) inferInstance (by simp) (fun wg hKg hSg => wpOp_of (by simp only [List.getElem?_toArray, List.getElem?_cons_zero, List.getElem?_cons_succ]; rfl) (by rfl) ?_)
  go_simp
  refine (exchange_is _ _ _ _ _ _ _ _ _ _ _ _ _ _ _ _ _ _ (unhide HE) _).mono ?_
  rintro e wh ⟨rfl, hb1⟩
  (try dsimp only)
  refine Gen.stay rfl hKg hb1 ?_
  clear hKg hSg
  clear hb1
  refine Gen.take 6 (v := ?vv47) okA (by simp only [List.getElem?_toArray, List.getElem?_cons_zero, List.getElem?_cons_succ]; rfl) (by kernel_rfl) (by kernel_rfl) (by kernel_rfl) (Or.inl ⟨by rfl, ?hh47⟩) ?_
  case hh47 => (intro wg hSw; have hc := ktells hSw; (try dsimp only at hc); go_simp; try with_reducible rfl)
  (try simp only [Act.put, List.setIfInBounds_toArray, List.set_cons_zero, List.set_cons_succ])
  refine Gen.take 7 (v := ?vv48) okA (by simp only [List.getElem?_toArray, List.getElem?_cons_zero, List.getElem?_cons_succ]; rfl) (by kernel_rfl) (by kernel_rfl) (by kernel_rfl) (Or.inl ⟨by rfl, ?hh48⟩) ?_
  case hh48 => (intro wg hSw; have hc := ktells hSw; (try dsimp only at hc); go_simp; try with_reducible rfl)
  (try simp only [Act.put, List.setIfInBounds_toArray, List.set_cons_zero, List.set_cons_succ])
  refine Gen.take 8 (v := ?vv49) okA (by simp only [List.getElem?_toArray, List.getElem?_cons_zero, List.getElem?_cons_succ]; rfl) (by kernel_rfl) (by kernel_rfl) (by kernel_rfl) (Or.inl ⟨by rfl, ?hh49⟩) ?_
  case hh49 => (intro wg hSw; have hc := ktells hSw; (try dsimp only at hc); go_simp; try with_reducible rfl)
  (try simp only [Act.put, List.setIfInBounds_toArray, List.set_cons_zero, List.set_cons_succ])
  refine Gen.take 9 (v := ?vv50) okA (by simp only [List.getElem?_toArray, List.getElem?_cons_zero, List.getElem?_cons_succ]; rfl) (by kernel_rfl) (by kernel_rfl) (by kernel_rfl) (Or.inl ⟨by rfl, ?hh50⟩) ?_
  case hh50 => (intro wg hSw; have hc := ktells hSw; (try dsimp only at hc); go_simp; try with_reducible rfl)
  (try simp only [Act.put, List.setIfInBounds_toArray, List.set_cons_zero, List.set_cons_succ])
  refine Gen.finish inferInstance Gen.size okA (by kernel_rfl) inferInstance (by simp) ?_
  simp only [Gen.Fin, NewVar.put]
  (try simp only [Act.put, List.setIfInBounds_toArray, List.set_cons_zero, List.set_cons_succ])
  intro BA10 hnA10 BA11 hnA11 wf hKf hSf
  obtain ⟨wu, rfl, hg10, hg11, hup⟩ := graft2 (fun W => Below V2.heap.size V2 W) hKf.2.1.1 hKf.1.1 hSf.1
  have hz10 := hKf.2.1.2
  have hz11 := hKf.1.2
  have hne10_11 : BA10 ≠ BA11 := fun e => hnA11 (by simp [e])
  have hne11_10 : BA11 ≠ BA10 := fun e => hne10_11 e.symm
  clear hKf hSf
  refine Gen.one 12 (by kernel_rfl) (wpOp_of (by simp only [List.getElem?_toArray, List.getElem?_cons_zero, List.getElem?_cons_succ]; rfl) (by rfl) ?_)
  go_simp
  (try simp only [Act.put, List.setIfInBounds_toArray, List.set_cons_zero, List.set_cons_succ])
  refine ⟨⟨(belowRow (belowRow hup hz10 _) hz11 _), kafter (unhide HKA) (belowRow (belowRow hup hz10 _) hz11 _)⟩, ?_⟩
  refine Gen.one 13 (by kernel_rfl) (wpOp_of (by simp only [List.getElem?_toArray, List.getElem?_cons_zero, List.getElem?_cons_succ]; rfl) (by rfl) ?_)
  go_simp
  (try simp only [Act.put, List.setIfInBounds_toArray, List.set_cons_zero, List.set_cons_succ])
  refine ⟨⟨(belowRow (belowRow hup hz10 _) hz11 _), kafter (unhide HKA) (belowRow (belowRow hup hz10 _) hz11 _)⟩, ?_⟩
  refine Gen.one 14 (by kernel_rfl) (wpOp_of (by simp only [List.getElem?_toArray, List.getElem?_cons_zero, List.getElem?_cons_succ]; rfl) (by rfl) ?_)
  go_simp
  (try simp only [Act.put, List.setIfInBounds_toArray, List.set_cons_zero, List.set_cons_succ])
  refine ⟨⟨(belowRow (belowRow hup hz10 _) hz11 _), kafter (unhide HKA) (belowRow (belowRow hup hz10 _) hz11 _)⟩, ?_⟩
  refine Gen.done (K := (kAnd (kNew V2.heap.size BA10 _) (kAnd (kNew V2.heap.size BA11 _) _))) (by kernel_rfl) ⟨⟨(RowIs.other (RowIs.same hg10 _) hne10_11 _), hz10⟩, ⟨⟨(RowIs.same (IsRow.setRow hg11 _ _) _), hz11⟩, kafter (unhide HKA) (belowRow (belowRow hup hz10 _) hz11 _)⟩⟩ (fun WA hKA => ?_) _
  clear okA hup hg10 hz10 hg11 hz11
  have HK := hide hKA
  have HC := ktells hKA
  (try dsimp only at HC)
  clear hKA
  go_upto_region 6 with (first | (go_at_call 17; refine know_at (by (repeat (first | exact kk (unhide HK) | apply kkbox | apply kkdrew | apply kkdrewN | apply kkalloc))) (fun hKa => ?_); (try simp only [World.size_alloc] at hKa); (try simp only [World.size_drew] at hKa); refine (awake_any _).mono ?_; rintro e w1 ⟨rfl, hb1⟩; have HK := hide (kafter hKa hb1); clear hKa hb1; have HC := ktells (unhide HK); (try dsimp only at HC)) | (go_at_call 24; refine (rightStr_sym _ _ _ _ _).mono ?_; rintro e w1 ⟨rfl, o1, rfl⟩) | (go_at_call 31; refine (refIn_any _ _ _ _).mono ?_; rintro e w2 ⟨rfl, rfl⟩))
  refine know_here (by (repeat (first | exact kk (unhide HK) | apply kkbox | apply kkdrew | apply kkdrewN | apply kkalloc))) ?_
  intro V6 hKB
  (try simp only [World.size_alloc] at hKB)
  (try simp only [World.size_drew] at hKB)
  have HKB := hide hKB
  have HCB := ktells hKB
  (try dsimp only at HCB)
  refine Gen.begin_ [⟨2, 13, #[.int .i64 0, .int .i64 0, .int .i64 0, .int .i64 0], 39⟩, ⟨3, 14, #[.int .i64 0, .int .i64 0, .int .i64 0, .int .i64 0], 39⟩] 4 (by kernel_rfl) hKB (by rfl) ⟨fun x hx => by (simp only [List.mem_cons, List.not_mem_nil, or_false] at hx; rcases hx with rfl | rfl; all_goals exact ⟨_, by rfl, by rfl, by rfl, fun _ _ => by kernel_rfl⟩), by kernel_rfl, fun _ _ _ _ _ => Iff.rfl⟩ (fun okB => ?_)
  clear hKB
  refine Gen.take 0 (v := ?vv51) okB (by simp only [List.getElem?_toArray, List.getElem?_cons_zero]; rfl) (by kernel_rfl) (by kernel_rfl) (by kernel_rfl) (Or.inl ⟨by rfl, ?hh51⟩) ?_
  case hh51 => (intro wg hSw; have hc := ktells hSw; (try dsimp only at hc); go_simp; try with_reducible rfl)
  (try simp only [Act.put, List.setIfInBounds_toArray, List.set_cons_zero, List.set_cons_succ])
  refine Gen.take 1 (v := ?vv52) okB (by simp only [List.getElem?_toArray, List.getElem?_cons_zero, List.getElem?_cons_succ]; rfl) (by kernel_rfl) (by kernel_rfl) (by kernel_rfl) (Or.inl ⟨by rfl, ?hh52⟩) ?_
  case hh52 => (intro wg hSw; have hc := ktells hSw; (try dsimp only at hc); go_simp; try with_reducible rfl)
  (try simp only [Act.put, List.setIfInBounds_toArray, List.set_cons_zero, List.set_cons_succ])
  refine Gen.finish inferInstance Gen.size okB (by kernel_rfl) inferInstance (by simp) ?_
  simp only [Gen.Fin, NewVar.put]
  (try simp only [Act.put, List.setIfInBounds_toArray, List.set_cons_zero, List.set_cons_succ])
  intro BB2 hnB2 BB3 hnB3 wf hKf hSf
  obtain ⟨wu, rfl, hg2, hg3, hup⟩ := graft2 (fun W => Below V6.heap.size V6 W) hKf.2.1.1 hKf.1.1 hSf.1
  have hz2 := hKf.2.1.2
  have hz3 := hKf.1.2
  have hne2_3 : BB2 ≠ BB3 := fun e => hnB3 (by simp [e])
  have hne3_2 : BB3 ≠ BB2 := fun e => hne2_3 e.symm
  clear hKf hSf
  refine Gen.one 4 (by kernel_rfl) (wpOp_of (by simp only [List.getElem?_toArray, List.getElem?_cons_zero, List.getElem?_cons_succ]; rfl) (by rfl) ?_)
  go_simp
  (try simp only [Act.put, List.setIfInBounds_toArray, List.set_cons_zero, List.set_cons_succ])
  refine ⟨⟨(belowRow (belowRow hup hz2 _) hz3 _), kafter (unhide HKB) (belowRow (belowRow hup hz2 _) hz3 _)⟩, ?_⟩
  refine Gen.one 5 (by kernel_rfl) (wpOp_of (by simp only [List.getElem?_toArray, List.getElem?_cons_zero, List.getElem?_cons_succ]; rfl) (by rfl) ?_)
  go_simp
  (try simp only [Act.put, List.setIfInBounds_toArray, List.set_cons_zero, List.set_cons_succ])
  refine ⟨⟨(belowRow (belowRow hup hz2 _) hz3 _), kafter (unhide HKB) (belowRow (belowRow hup hz2 _) hz3 _)⟩, ?_⟩
  refine Gen.done (K := (kAnd (kNew V6.heap.size BB2 _) (kAnd (kNew V6.heap.size BB3 _) _))) (by kernel_rfl) ⟨⟨(RowIs.other (RowIs.same hg2 _) hne2_3 _), hz2⟩, ⟨⟨(RowIs.same (IsRow.setRow hg3 _ _) _), hz3⟩, kafter (unhide HKB) (belowRow (belowRow hup hz2 _) hz3 _)⟩⟩ (fun WB hKB => ?_) _
  clear okB hup hg2 hz2 hg3 hz3
  have HK := hide hKB
  have HC := ktells hKB
  (try dsimp only at HC)
  clear hKB
  obtain ⟨hx, hy, hb, hc, ha, ht', hs', hup⟩ := unhide HK
  have x2 := hx.2
  have x3 := hy.2
  obtain ⟨u, rfl, gx, gy, hu⟩ := graft2 (kAnd (kNew V2.heap.size BA10 _) (kAnd (kNew V2.heap.size BA11 _) (kAnd (kRow (w.heap.size + 1 + 1 + 1 + 1 + 1 + 1 + 1) _) (kAnd (kRow (w.heap.size + 1) _) (kAnd (kRow w.heap.size _) (kUp w)))))) hx.1 hy.1 ⟨hb, hc, ha, ht', hs', hup⟩
  clear hx hy hb hc ha ht' hs' hup HK HC
  have HC := ktells hu
  (try dsimp only at HC)
  have zx := gx.lt
  have zy := gy.lt
  have n2_0 : BA10 ≠ BB2 := by omega
  have m2_0 : BB2 ≠ BA10 := by omega
  have n3_0 : BA10 ≠ BB3 := by omega
  have m3_0 : BB3 ≠ BA10 := by omega
  have n2_1 : BA11 ≠ BB2 := by omega
  have m2_1 : BB2 ≠ BA11 := by omega
  have n3_1 : BA11 ≠ BB3 := by omega
  have m3_1 : BB3 ≠ BA11 := by omega
  have n2_2 : w.heap.size + 1 + 1 + 1 + 1 + 1 + 1 + 1 ≠ BB2 := by omega
  have m2_2 : BB2 ≠ w.heap.size + 1 + 1 + 1 + 1 + 1 + 1 + 1 := by omega
  have n3_2 : w.heap.size + 1 + 1 + 1 + 1 + 1 + 1 + 1 ≠ BB3 := by omega
  have m3_2 : BB3 ≠ w.heap.size + 1 + 1 + 1 + 1 + 1 + 1 + 1 := by omega
  have n2_3 : w.heap.size + 1 ≠ BB2 := by omega
  have m2_3 : BB2 ≠ w.heap.size + 1 := by omega
  have n3_3 : w.heap.size + 1 ≠ BB3 := by omega
  have m3_3 : BB3 ≠ w.heap.size + 1 := by omega
  have n2_4 : w.heap.size ≠ BB2 := by omega
  have m2_4 : BB2 ≠ w.heap.size := by omega
  have n3_4 : w.heap.size ≠ BB3 := by omega
  have m3_4 : BB3 ≠ w.heap.size := by omega
  have gw2 : w.heap.size ≤ BB2 := by omega
  have gw3 : w.heap.size ≤ BB3 := by omega
  go_upto_region 9 with fail
  obtain ⟨hb, hc, ha, ht', hs', hup⟩ := hu
  refine know_here (K := (kAnd (kRow BB2 _) (kAnd (kRow BB3 _) (kAnd (kNew V2.heap.size BA10 _) (kAnd (kNew V2.heap.size BA11 _) (kAnd (kRow (w.heap.size + 1 + 1 + 1 + 1 + 1 + 1 + 1) _) (kAnd (kRow (w.heap.size + 1) _) (kAnd (kRow w.heap.size _) (kUp w))))))))) ⟨⟨(RowIs.same gx _).other hne2_3 _, RowIs.same (gy.setRow _ _) _, ⟨(hb.1.other n2_0 _).other n3_0 _, hb.2⟩, ⟨(hc.1.other n2_1 _).other n3_1 _, hc.2⟩, (ha.other n2_2 _).other n3_2 _, (ht'.other n2_3 _).other n3_3 _, (hs'.other n2_4 _).other n3_4 _, belowRow (belowRow hup gw2 _) gw3 _⟩, inferInstance⟩ ?_
  intro WY hKY
  have HK := hide hKY
  clear HC gx gy hb hc ha ht' hs' hup zx zy
  have HC := ktells hKY
  (try dsimp only at HC)
  clear hKY
  go_upto_region 17 with (first | (go_at_call 17; refine know_at (by (repeat (first | exact kk (unhide HK) | apply kkbox | apply kkdrew | apply kkdrewN | apply kkalloc))) (fun hKa => ?_); (try simp only [World.size_alloc] at hKa); (try simp only [World.size_drew] at hKa); refine (awake_any _).mono ?_; rintro e w1 ⟨rfl, hb1⟩; have HK := hide (kafter hKa hb1); clear hKa hb1; have HC := ktells (unhide HK); (try dsimp only at HC)) | (go_at_call 24; refine (rightStr_sym _ _ _ _ _).mono ?_; rintro e w1 ⟨rfl, o1, rfl⟩) | (go_at_call 31; refine (refIn_any _ _ _ _).mono ?_; rintro e w2 ⟨rfl, rfl⟩))
  refine know_here (by (repeat (first | exact kk (unhide HK) | apply kkbox | apply kkdrew | apply kkdrewN | apply kkalloc))) ?_
  intro W16 hK16
  have HK := hide hK16
  clear HC
  have HC := ktells hK16
  (try dsimp only at HC)
  clear hK16
  obtain ⟨hx, hy, hb, hc, ha, ht', hs', hup⟩ := unhide HK
  obtain ⟨u, rfl, gx, gy, hu⟩ := graft2 (kAnd (kNew V2.heap.size BA10 _) (kAnd (kNew V2.heap.size BA11 _) (kAnd (kRow (w.heap.size + 1 + 1 + 1 + 1 + 1 + 1 + 1) _) (kAnd (kRow (w.heap.size + 1) _) (kAnd (kRow w.heap.size _) (kUp w)))))) hx hy ⟨hb, hc, ha, ht', hs', hup⟩
  clear hx hy hb hc ha ht' hs' hup HK HC
  have HC := ktells hu
  (try dsimp only at HC)
  have zx := gx.lt
  have zy := gy.lt
  go_wp2_with fail
  go_region
  go_upto_region 20 with fail
  obtain ⟨hb, hc, ha, ht', hs', hup⟩ := hu
  refine know_here (K := (kAnd (kRow BB2 _) (kAnd (kRow BB3 _) (kAnd (kNew V2.heap.size BA10 _) (kAnd (kNew V2.heap.size BA11 _) (kAnd (kRow (w.heap.size + 1 + 1 + 1 + 1 + 1 + 1 + 1) _) (kAnd (kRow (w.heap.size + 1) _) (kAnd (kRow w.heap.size _) (kUp w))))))))) ⟨Keeps.keep ((Below.refl _ _).drew) (show (kAnd (kRow BB2 _) (kAnd (kRow BB3 _) (kAnd (kNew V2.heap.size BA10 _) (kAnd (kNew V2.heap.size BA11 _) (kAnd (kRow (w.heap.size + 1 + 1 + 1 + 1 + 1 + 1 + 1) _) (kAnd (kRow (w.heap.size + 1) _) (kAnd (kRow w.heap.size _) (kUp w)))))))) _ from ⟨(RowIs.same gx _).other hne2_3 _, RowIs.same (gy.setRow _ _) _, ⟨(hb.1.other n2_0 _).other n3_0 _, hb.2⟩, ⟨(hc.1.other n2_1 _).other n3_1 _, hc.2⟩, (ha.other n2_2 _).other n3_2 _, (ht'.other n2_3 _).other n3_3 _, (hs'.other n2_4 _).other n3_4 _, belowRow (belowRow hup gw2 _) gw3 _⟩), inferInstance⟩ ?_
  intro WZ hKZ
  have HK := hide hKZ
  clear HC gx gy hb hc ha ht' hs' hup zx zy
  have HC := ktells hKZ
  (try dsimp only at HC)
  clear hKZ
  go_wp2_with (first | (go_at_call 17; refine know_at (by (repeat (first | exact kk (unhide HK) | apply kkbox | apply kkdrew | apply kkdrewN | apply kkalloc))) (fun hKa => ?_); (try simp only [World.size_alloc] at hKa); (try simp only [World.size_drew] at hKa); refine (awake_any _).mono ?_; rintro e w1 ⟨rfl, hb1⟩; have HK := hide (kafter hKa hb1); clear hKa hb1; have HC := ktells (unhide HK); (try dsimp only at HC)) | (go_at_call 24; refine (rightStr_sym _ _ _ _ _).mono ?_; rintro e w1 ⟨rfl, o1, rfl⟩) | (go_at_call 31; refine (refIn_any _ _ _ _).mono ?_; rintro e w2 ⟨rfl, rfl⟩))
  all_goals (go_ret; exact ⟨rfl, kup (unhide HK)⟩)

set_option maxRecDepth 100000 in
set_option maxHeartbeats 12800000 in
theorem heats5by (M H S G M' H' S' G' k a1 a2 a3 a4 ea b1 b2 b3 b4 c1 c2 c3 c4 eb : Int) (HH : Hid (heatR ⟨M, H, S, G⟩ k = (⟨a1, a2, a3, a4⟩, ea))) (HE : Hid (exR ⟨M, H, S, G⟩ ⟨M', H', S', G'⟩ k = (⟨b1, b2, b3, b4⟩, ⟨c1, c2, c3, c4⟩, eb))) (hs : strOk ⟨M, H, S, G⟩ = true) (hin : inB k (-5000000000) 5000000000 = true) (ht : strOk ⟨M', H', S', G'⟩ = true) (hx : strOk ⟨M, H + k, S, G⟩ = false) (za : a1 = 0 ∧ a2 = 0 ∧ a3 = 0 ∧ a4 = 0) (ea' : ea = 2) (hk : decide (k < 0) = false) (hx' : strOk ⟨M, H - k, S, G⟩ = true) (hy' : strOk ⟨M', H' + k, S', G'⟩ = false) (zb : (b1 = 0 ∧ b2 = 0 ∧ b3 = 0 ∧ b4 = 0) ∧ c1 = 0 ∧ c2 = 0 ∧ c3 = 0 ∧ c4 = 0) (eb' : eb = 2) (w : World) :
    Calls Try.prog 11 #[.agg #[.int .i64 M, .int .i64 H, .int .i64 S, .int .i64 G], .agg #[.int .i64 M', .int .i64 H', .int .i64 S', .int .i64 G'], .int .i64 k] w fun e w' => e = .returned (.bool true) ∧ Below w.heap.size w w' := by
  have HK : Hid (kUp w w) := hide (Below.refl _ _)
  have Bs := strOk_iff.1 hs
  obtain ⟨x0, x1, x2, x3, x4, x5, x6, x7⟩ := Bs
  dsimp only at x0 x1 x2 x3 x4 x5 x6 x7
  obtain ⟨k0, k1⟩ := inB_iff.1 hin
  have w1' : IntKind.i64.wrap (H + k) = H + k := w64 (by omega) (by omega)
  have w2' : IntKind.i64.wrap (H - k) = H - k := w64 (by omega) (by omega)
  have Bt := strOk_iff.1 ht
  obtain ⟨y0, y1, y2, y3, y4, y5, y6, y7⟩ := Bt
  dsimp only at y0 y1 y2 y3 y4 y5 y6 y7
  have w3' : IntKind.i64.wrap (H' + k) = H' + k := w64 (by omega) (by omega)
  obtain ⟨rfl, rfl, rfl, rfl⟩ := za
  obtain ⟨⟨rfl, rfl, rfl, rfl⟩, rfl, rfl, rfl, rfl⟩ := zb
  subst ea' eb'
  go_enter Try.func11, Try.ntmps11
  go_upto_region 2 with (first | (go_at_call 26; refine (mkStr_is _ _ _ _ _).mono ?_; rintro e w1 ⟨rfl, o1, o2, rfl⟩) | (go_at_call 44; refine (heated_is _ _ _ _ _ _ _ (unhide HH) _).mono ?_; rintro e w2 ⟨rfl, o3, o4, o5, rfl⟩))
  refine know_here (by (repeat (first | exact kk (unhide HK) | apply kkbox | apply kkdrew | apply kkdrewN | apply kkalloc))) ?_
  intro V2 hKA
  (try simp only [World.size_alloc] at hKA)
  (try simp only [World.size_drew] at hKA)
  have HKA := hide hKA
  have HCA := ktells hKA
  (try dsimp only at HCA)
  refine Gen.begin_ [⟨10, 9, #[.int .i64 0, .int .i64 0, .int .i64 0, .int .i64 0], 42⟩, ⟨11, 10, #[.int .i64 0, .int .i64 0, .int .i64 0, .int .i64 0], 42⟩] 13 (by kernel_rfl) hKA (by rfl) ⟨fun x hx => by (simp only [List.mem_cons, List.not_mem_nil, or_false] at hx; rcases hx with rfl | rfl; all_goals exact ⟨_, by rfl, by rfl, by rfl, fun _ _ => by kernel_rfl⟩), by kernel_rfl, fun _ _ _ _ _ => Iff.rfl⟩ (fun okA => ?_)
  clear hKA
  refine Gen.take 0 (v := ?vv53) okA (by simp only [List.getElem?_toArray, List.getElem?_cons_zero]; rfl) (by kernel_rfl) (by kernel_rfl) (by kernel_rfl) (Or.inl ⟨by rfl, ?hh53⟩) ?_
  case hh53 => (intro wg hSw; have hc := ktells hSw; (try dsimp only at hc); go_simp; try with_reducible rfl)
  (try simp only [Act.put, List.setIfInBounds_toArray, List.set_cons_zero, List.set_cons_succ])
  refine Gen.take 2 (v := ?vv54) okA (by simp only [List.getElem?_toArray, List.getElem?_cons_zero, List.getElem?_cons_succ]; rfl) (by kernel_rfl) (by kernel_rfl) (by kernel_rfl) (Or.inl ⟨by rfl, ?hh54⟩) ?_
  case hh54 => (intro wg hSw; have hc := ktells hSw; (try dsimp only at hc); go_simp; try with_reducible rfl)
  (try simp only [Act.put, List.setIfInBounds_toArray, List.set_cons_zero, List.set_cons_succ])
  refine Gen.take 4 (v := ?vv55) okA (by simp only [List.getElem?_toArray, List.getElem?_cons_zero, List.getElem?_cons_succ]; rfl) (by kernel_rfl) (by kernel_rfl) (by kernel_rfl) (Or.inl ⟨by rfl, ?hh55⟩) ?_
  case hh55 => (intro wg hSw; have hc := ktells hSw; (try dsimp only at hc); go_simp; try with_reducible rfl)
  (try simp only [Act.put, List.setIfInBounds_toArray, List.set_cons_zero, List.set_cons_succ])
  refine Gen.step inferInstance Gen.size 1 okA (by kernel_rfl) inferInstance (by simp) (fun wg hKg hSg => wpOp_of (by simp only [List.getElem?_toArray, List.getElem?_cons_zero, List.getElem?_cons_succ]; rfl) (by rfl) ?_)
  go_simp
  refine (mkStr_is _ _ _ _ _).mono ?_
  rintro e wh ⟨rfl, o1, o2, rfl⟩
  (try dsimp only)
  refine Gen.stay rfl hKg (by (repeat (first | exact Below.refl _ _ | refine Below.allocs ?_ _ | refine Below.drew ?_ | refine Below.drewNs ?_ _))) ?_
  clear hKg hSg
  refine Gen.step inferInstance Gen.size 3 okA (by kernel_rfl) inferInstance (by simp) (fun wg hKg hSg => wpOp_of (by simp only [List.getElem?_toArray, List.getElem?_cons_zero, List.getElem?_cons_succ]; rfl) (by rfl) ?_)
  go_simp
  refine (mkStr_is _ _ _ _ _).mono ?_
  rintro e wh ⟨rfl, o1, o2, rfl⟩
  (try dsimp only)
  refine Gen.stay rfl hKg (by (repeat (first | exact Below.refl _ _ | refine Below.allocs ?_ _ | refine Below.drew ?_ | refine Below.drewNs ?_ _))) ?_
  clear hKg hSg
  refine Gen.step inferInstance Gen.size 5 okA (by kernel_rfl) inferInstance (by simp) (fun wg hKg hSg => wpOp_of (by simp only [List.getElem?_toArray, List.getElem?_cons_zero, List.getElem?_cons_succ]; rfl) (by rfl) ?_)
  go_simp
  refine (exchange_is _ _ _ _ _ _ _ _ _ _ _ _ _ _ _ _ _ _ (unhide HE) _).mono ?_
  rintro e wh ⟨rfl, hb1⟩
  (try dsimp only)
  refine Gen.stay rfl hKg hb1 ?_
  clear hKg hSg
  clear hb1
  refine Gen.take 6 (v := ?vv56) okA (by simp only [List.getElem?_toArray, List.getElem?_cons_zero, List.getElem?_cons_succ]; rfl) (by kernel_rfl) (by kernel_rfl) (by kernel_rfl) (Or.inl ⟨by rfl, ?hh56⟩) ?_
  case hh56 => (intro wg hSw; have hc := ktells hSw; (try dsimp only at hc); go_simp; try with_reducible rfl)
  (try simp only [Act.put, List.setIfInBounds_toArray, List.set_cons_zero, List.set_cons_succ])
  refine Gen.take 7 (v := ?vv57) okA (by simp only [List.getElem?_toArray, List.getElem?_cons_zero, List.getElem?_cons_succ]; rfl) (by kernel_rfl) (by kernel_rfl) (by kernel_rfl) (Or.inl ⟨by rfl, ?hh57⟩) ?_
  case hh57 => (intro wg hSw; have hc := ktells hSw; (try dsimp only at hc); go_simp; try with_reducible rfl)
  (try simp only [Act.put, List.setIfInBounds_toArray, List.set_cons_zero, List.set_cons_succ])
  refine Gen.take 8 (v := ?vv58) okA (by simp only [List.getElem?_toArray, List.getElem?_cons_zero, List.getElem?_cons_succ]; rfl) (by kernel_rfl) (by kernel_rfl) (by kernel_rfl) (Or.inl ⟨by rfl, ?hh58⟩) ?_
  case hh58 => (intro wg hSw; have hc := ktells hSw; (try dsimp only at hc); go_simp; try with_reducible rfl)
  (try simp only [Act.put, List.setIfInBounds_toArray, List.set_cons_zero, List.set_cons_succ])
  refine Gen.take 9 (v := ?vv59) okA (by simp only [List.getElem?_toArray, List.getElem?_cons_zero, List.getElem?_cons_succ]; rfl) (by kernel_rfl) (by kernel_rfl) (by kernel_rfl) (Or.inl ⟨by rfl, ?hh59⟩) ?_
  case hh59 => (intro wg hSw; have hc := ktells hSw; (try dsimp only at hc); go_simp; try with_reducible rfl)
  (try simp only [Act.put, List.setIfInBounds_toArray, List.set_cons_zero, List.set_cons_succ])
  refine Gen.finish inferInstance Gen.size okA (by kernel_rfl) inferInstance (by simp) ?_
  simp only [Gen.Fin, NewVar.put]
  (try simp only [Act.put, List.setIfInBounds_toArray, List.set_cons_zero, List.set_cons_succ])
  intro BA10 hnA10 BA11 hnA11 wf hKf hSf
  obtain ⟨wu, rfl, hg10, hg11, hup⟩ := graft2 (fun W => Below V2.heap.size V2 W) hKf.2.1.1 hKf.1.1 hSf.1
  have hz10 := hKf.2.1.2
  have hz11 := hKf.1.2
  have hne10_11 : BA10 ≠ BA11 := fun e => hnA11 (by simp [e])
  have hne11_10 : BA11 ≠ BA10 := fun e => hne10_11 e.symm
  clear hKf hSf
  refine Gen.one 12 (by kernel_rfl) (wpOp_of (by simp only [List.getElem?_toArray, List.getElem?_cons_zero, List.getElem?_cons_succ]; rfl) (by rfl) ?_)
  go_simp
  (try simp only [Act.put, List.setIfInBounds_toArray, List.set_cons_zero, List.set_cons_succ])
  refine ⟨⟨(belowRow (belowRow hup hz10 _) hz11 _), kafter (unhide HKA) (belowRow (belowRow hup hz10 _) hz11 _)⟩, ?_⟩
  refine Gen.one 13 (by kernel_rfl) (wpOp_of (by simp only [List.getElem?_toArray, List.getElem?_cons_zero, List.getElem?_cons_succ]; rfl) (by rfl) ?_)
  go_simp
  (try simp only [Act.put, List.setIfInBounds_toArray, List.set_cons_zero, List.set_cons_succ])
  refine ⟨⟨(belowRow (belowRow hup hz10 _) hz11 _), kafter (unhide HKA) (belowRow (belowRow hup hz10 _) hz11 _)⟩, ?_⟩
  refine Gen.one 14 (by kernel_rfl) (wpOp_of (by simp only [List.getElem?_toArray, List.getElem?_cons_zero, List.getElem?_cons_succ]; rfl) (by rfl) ?_)
  go_simp
  (try simp only [Act.put, List.setIfInBounds_toArray, List.set_cons_zero, List.set_cons_succ])
  refine ⟨⟨(belowRow (belowRow hup hz10 _) hz11 _), kafter (unhide HKA) (belowRow (belowRow hup hz10 _) hz11 _)⟩, ?_⟩
  refine Gen.done (K := (kAnd (kNew V2.heap.size BA10 _) (kAnd (kNew V2.heap.size BA11 _) _))) (by kernel_rfl) ⟨⟨(RowIs.other (RowIs.same hg10 _) hne10_11 _), hz10⟩, ⟨⟨(RowIs.same (IsRow.setRow hg11 _ _) _), hz11⟩, kafter (unhide HKA) (belowRow (belowRow hup hz10 _) hz11 _)⟩⟩ (fun WA hKA => ?_) _
  clear okA hup hg10 hz10 hg11 hz11
  have HK := hide hKA
  have HC := ktells hKA
  (try dsimp only at HC)
  clear hKA
  go_upto_region 6 with (first | (go_at_call 17; refine know_at (by (repeat (first | exact kk (unhide HK) | apply kkbox | apply kkdrew | apply kkdrewN | apply kkalloc))) (fun hKa => ?_); (try simp only [World.size_alloc] at hKa); (try simp only [World.size_drew] at hKa); refine (awake_any _).mono ?_; rintro e w1 ⟨rfl, hb1⟩; have HK := hide (kafter hKa hb1); clear hKa hb1; have HC := ktells (unhide HK); (try dsimp only at HC)) | (go_at_call 24; refine (rightStr_sym _ _ _ _ _).mono ?_; rintro e w1 ⟨rfl, o1, rfl⟩) | (go_at_call 31; refine (refIn_any _ _ _ _).mono ?_; rintro e w2 ⟨rfl, rfl⟩))
  refine know_here (by (repeat (first | exact kk (unhide HK) | apply kkbox | apply kkdrew | apply kkdrewN | apply kkalloc))) ?_
  intro V6 hKB
  (try simp only [World.size_alloc] at hKB)
  (try simp only [World.size_drew] at hKB)
  have HKB := hide hKB
  have HCB := ktells hKB
  (try dsimp only at HCB)
  refine Gen.begin_ [⟨2, 13, #[.int .i64 0, .int .i64 0, .int .i64 0, .int .i64 0], 39⟩, ⟨3, 14, #[.int .i64 0, .int .i64 0, .int .i64 0, .int .i64 0], 39⟩] 4 (by kernel_rfl) hKB (by rfl) ⟨fun x hx => by (simp only [List.mem_cons, List.not_mem_nil, or_false] at hx; rcases hx with rfl | rfl; all_goals exact ⟨_, by rfl, by rfl, by rfl, fun _ _ => by kernel_rfl⟩), by kernel_rfl, fun _ _ _ _ _ => Iff.rfl⟩ (fun okB => ?_)
  clear hKB
  refine Gen.take 0 (v := ?vv60) okB (by simp only [List.getElem?_toArray, List.getElem?_cons_zero]; rfl) (by kernel_rfl) (by kernel_rfl) (by kernel_rfl) (Or.inl ⟨by rfl, ?hh60⟩) ?_
  case hh60 => (intro wg hSw; have hc := ktells hSw; (try dsimp only at hc); go_simp; try with_reducible rfl)
  (try simp only [Act.put, List.setIfInBounds_toArray, List.set_cons_zero, List.set_cons_succ])
  refine Gen.take 1 (v := ?vv61) okB (by simp only [List.getElem?_toArray, List.getElem?_cons_zero, List.getElem?_cons_succ]; rfl) (by kernel_rfl) (by kernel_rfl) (by kernel_rfl) (Or.inl ⟨by rfl, ?hh61⟩) ?_
  case hh61 => (intro wg hSw; have hc := ktells hSw; (try dsimp only at hc); go_simp; try with_reducible rfl)
  (try simp only [Act.put, List.setIfInBounds_toArray, List.set_cons_zero, List.set_cons_succ])
  refine Gen.finish inferInstance Gen.size okB (by kernel_rfl) inferInstance (by simp) ?_
  simp only [Gen.Fin, NewVar.put]
  (try simp only [Act.put, List.setIfInBounds_toArray, List.set_cons_zero, List.set_cons_succ])
  intro BB2 hnB2 BB3 hnB3 wf hKf hSf
  obtain ⟨wu, rfl, hg2, hg3, hup⟩ := graft2 (fun W => Below V6.heap.size V6 W) hKf.2.1.1 hKf.1.1 hSf.1
  have hz2 := hKf.2.1.2
  have hz3 := hKf.1.2
  have hne2_3 : BB2 ≠ BB3 := fun e => hnB3 (by simp [e])
  have hne3_2 : BB3 ≠ BB2 := fun e => hne2_3 e.symm
  clear hKf hSf
  refine Gen.one 4 (by kernel_rfl) (wpOp_of (by simp only [List.getElem?_toArray, List.getElem?_cons_zero, List.getElem?_cons_succ]; rfl) (by rfl) ?_)
  go_simp
  (try simp only [Act.put, List.setIfInBounds_toArray, List.set_cons_zero, List.set_cons_succ])
  refine ⟨⟨(belowRow (belowRow hup hz2 _) hz3 _), kafter (unhide HKB) (belowRow (belowRow hup hz2 _) hz3 _)⟩, ?_⟩
  refine Gen.one 5 (by kernel_rfl) (wpOp_of (by simp only [List.getElem?_toArray, List.getElem?_cons_zero, List.getElem?_cons_succ]; rfl) (by rfl) ?_)
  go_simp
  (try simp only [Act.put, List.setIfInBounds_toArray, List.set_cons_zero, List.set_cons_succ])
  refine ⟨⟨(belowRow (belowRow hup hz2 _) hz3 _), kafter (unhide HKB) (belowRow (belowRow hup hz2 _) hz3 _)⟩, ?_⟩
  refine Gen.done (K := (kAnd (kNew V6.heap.size BB2 _) (kAnd (kNew V6.heap.size BB3 _) _))) (by kernel_rfl) ⟨⟨(RowIs.other (RowIs.same hg2 _) hne2_3 _), hz2⟩, ⟨⟨(RowIs.same (IsRow.setRow hg3 _ _) _), hz3⟩, kafter (unhide HKB) (belowRow (belowRow hup hz2 _) hz3 _)⟩⟩ (fun WB hKB => ?_) _
  clear okB hup hg2 hz2 hg3 hz3
  have HK := hide hKB
  have HC := ktells hKB
  (try dsimp only at HC)
  clear hKB
  obtain ⟨hx, hy, hb, hc, ha, ht', hs', hup⟩ := unhide HK
  have x2 := hx.2
  have x3 := hy.2
  obtain ⟨u, rfl, gx, gy, hu⟩ := graft2 (kAnd (kNew V2.heap.size BA10 _) (kAnd (kNew V2.heap.size BA11 _) (kAnd (kRow (w.heap.size + 1 + 1 + 1 + 1 + 1 + 1 + 1) _) (kAnd (kRow (w.heap.size + 1) _) (kAnd (kRow w.heap.size _) (kUp w)))))) hx.1 hy.1 ⟨hb, hc, ha, ht', hs', hup⟩
  clear hx hy hb hc ha ht' hs' hup HK HC
  have HC := ktells hu
  (try dsimp only at HC)
  have zx := gx.lt
  have zy := gy.lt
  have n2_0 : BA10 ≠ BB2 := by omega
  have m2_0 : BB2 ≠ BA10 := by omega
  have n3_0 : BA10 ≠ BB3 := by omega
  have m3_0 : BB3 ≠ BA10 := by omega
  have n2_1 : BA11 ≠ BB2 := by omega
  have m2_1 : BB2 ≠ BA11 := by omega
  have n3_1 : BA11 ≠ BB3 := by omega
  have m3_1 : BB3 ≠ BA11 := by omega
  have n2_2 : w.heap.size + 1 + 1 + 1 + 1 + 1 + 1 + 1 ≠ BB2 := by omega
  have m2_2 : BB2 ≠ w.heap.size + 1 + 1 + 1 + 1 + 1 + 1 + 1 := by omega
  have n3_2 : w.heap.size + 1 + 1 + 1 + 1 + 1 + 1 + 1 ≠ BB3 := by omega
  have m3_2 : BB3 ≠ w.heap.size + 1 + 1 + 1 + 1 + 1 + 1 + 1 := by omega
  have n2_3 : w.heap.size + 1 ≠ BB2 := by omega
  have m2_3 : BB2 ≠ w.heap.size + 1 := by omega
  have n3_3 : w.heap.size + 1 ≠ BB3 := by omega
  have m3_3 : BB3 ≠ w.heap.size + 1 := by omega
  have n2_4 : w.heap.size ≠ BB2 := by omega
  have m2_4 : BB2 ≠ w.heap.size := by omega
  have n3_4 : w.heap.size ≠ BB3 := by omega
  have m3_4 : BB3 ≠ w.heap.size := by omega
  have gw2 : w.heap.size ≤ BB2 := by omega
  have gw3 : w.heap.size ≤ BB3 := by omega
  go_upto_region 9 with fail
  obtain ⟨hb, hc, ha, ht', hs', hup⟩ := hu
  refine know_here (K := (kAnd (kRow BB2 _) (kAnd (kRow BB3 _) (kAnd (kNew V2.heap.size BA10 _) (kAnd (kNew V2.heap.size BA11 _) (kAnd (kRow (w.heap.size + 1 + 1 + 1 + 1 + 1 + 1 + 1) _) (kAnd (kRow (w.heap.size + 1) _) (kAnd (kRow w.heap.size _) (kUp w))))))))) ⟨⟨(RowIs.same gx _).other hne2_3 _, RowIs.same (gy.setRow _ _) _, ⟨(hb.1.other n2_0 _).other n3_0 _, hb.2⟩, ⟨(hc.1.other n2_1 _).other n3_1 _, hc.2⟩, (ha.other n2_2 _).other n3_2 _, (ht'.other n2_3 _).other n3_3 _, (hs'.other n2_4 _).other n3_4 _, belowRow (belowRow hup gw2 _) gw3 _⟩, inferInstance⟩ ?_
  intro WY hKY
  have HK := hide hKY
  clear HC gx gy hb hc ha ht' hs' hup zx zy
  have HC := ktells hKY
  (try dsimp only at HC)
  clear hKY
  go_upto_region 17 with (first | (go_at_call 17; refine know_at (by (repeat (first | exact kk (unhide HK) | apply kkbox | apply kkdrew | apply kkdrewN | apply kkalloc))) (fun hKa => ?_); (try simp only [World.size_alloc] at hKa); (try simp only [World.size_drew] at hKa); refine (awake_any _).mono ?_; rintro e w1 ⟨rfl, hb1⟩; have HK := hide (kafter hKa hb1); clear hKa hb1; have HC := ktells (unhide HK); (try dsimp only at HC)) | (go_at_call 24; refine (rightStr_sym _ _ _ _ _).mono ?_; rintro e w1 ⟨rfl, o1, rfl⟩) | (go_at_call 31; refine (refIn_any _ _ _ _).mono ?_; rintro e w2 ⟨rfl, rfl⟩))
  refine know_here (by (repeat (first | exact kk (unhide HK) | apply kkbox | apply kkdrew | apply kkdrewN | apply kkalloc))) ?_
  intro W16 hK16
  have HK := hide hK16
  clear HC
  have HC := ktells hK16
  (try dsimp only at HC)
  clear hK16
  obtain ⟨hx, hy, hb, hc, ha, ht', hs', hup⟩ := unhide HK
  obtain ⟨u, rfl, gx, gy, hu⟩ := graft2 (kAnd (kNew V2.heap.size BA10 _) (kAnd (kNew V2.heap.size BA11 _) (kAnd (kRow (w.heap.size + 1 + 1 + 1 + 1 + 1 + 1 + 1) _) (kAnd (kRow (w.heap.size + 1) _) (kAnd (kRow w.heap.size _) (kUp w)))))) hx hy ⟨hb, hc, ha, ht', hs', hup⟩
  clear hx hy hb hc ha ht' hs' hup HK HC
  have HC := ktells hu
  (try dsimp only at HC)
  have zx := gx.lt
  have zy := gy.lt
  go_wp2_with fail
  go_region
  go_upto_region 20 with fail
  obtain ⟨hb, hc, ha, ht', hs', hup⟩ := hu
  refine know_here (K := (kAnd (kRow BB2 _) (kAnd (kRow BB3 _) (kAnd (kNew V2.heap.size BA10 _) (kAnd (kNew V2.heap.size BA11 _) (kAnd (kRow (w.heap.size + 1 + 1 + 1 + 1 + 1 + 1 + 1) _) (kAnd (kRow (w.heap.size + 1) _) (kAnd (kRow w.heap.size _) (kUp w))))))))) ⟨Keeps.keep ((Below.refl _ _).drew) (show (kAnd (kRow BB2 _) (kAnd (kRow BB3 _) (kAnd (kNew V2.heap.size BA10 _) (kAnd (kNew V2.heap.size BA11 _) (kAnd (kRow (w.heap.size + 1 + 1 + 1 + 1 + 1 + 1 + 1) _) (kAnd (kRow (w.heap.size + 1) _) (kAnd (kRow w.heap.size _) (kUp w)))))))) _ from ⟨(RowIs.same gx _).other hne2_3 _, RowIs.same (gy.setRow _ _) _, ⟨(hb.1.other n2_0 _).other n3_0 _, hb.2⟩, ⟨(hc.1.other n2_1 _).other n3_1 _, hc.2⟩, (ha.other n2_2 _).other n3_2 _, (ht'.other n2_3 _).other n3_3 _, (hs'.other n2_4 _).other n3_4 _, belowRow (belowRow hup gw2 _) gw3 _⟩), inferInstance⟩ ?_
  intro WZ hKZ
  have HK := hide hKZ
  clear HC gx gy hb hc ha ht' hs' hup zx zy
  have HC := ktells hKZ
  (try dsimp only at HC)
  clear hKZ
  go_wp2_with (first | (go_at_call 17; refine know_at (by (repeat (first | exact kk (unhide HK) | apply kkbox | apply kkdrew | apply kkdrewN | apply kkalloc))) (fun hKa => ?_); (try simp only [World.size_alloc] at hKa); (try simp only [World.size_drew] at hKa); refine (awake_any _).mono ?_; rintro e w1 ⟨rfl, hb1⟩; have HK := hide (kafter hKa hb1); clear hKa hb1; have HC := ktells (unhide HK); (try dsimp only at HC)) | (go_at_call 24; refine (rightStr_sym _ _ _ _ _).mono ?_; rintro e w1 ⟨rfl, o1, rfl⟩) | (go_at_call 31; refine (refIn_any _ _ _ _).mono ?_; rintro e w2 ⟨rfl, rfl⟩))
  all_goals (go_ret; exact ⟨rfl, kup (unhide HK)⟩)

set_option maxRecDepth 100000 in
set_option maxHeartbeats 12800000 in
theorem heats6b (M H S G M' H' S' G' k a1 a2 a3 a4 ea b1 b2 b3 b4 c1 c2 c3 c4 eb : Int) (HH : Hid (heatR ⟨M, H, S, G⟩ k = (⟨a1, a2, a3, a4⟩, ea))) (HE : Hid (exR ⟨M, H, S, G⟩ ⟨M', H', S', G'⟩ k = (⟨b1, b2, b3, b4⟩, ⟨c1, c2, c3, c4⟩, eb))) (hs : strOk ⟨M, H, S, G⟩ = true) (hin : inB k (-5000000000) 5000000000 = true) (ht : strOk ⟨M', H', S', G'⟩ = true) (hx : strOk ⟨M, H + k, S, G⟩ = false) (za : a1 = 0 ∧ a2 = 0 ∧ a3 = 0 ∧ a4 = 0) (ea' : ea = 2) (hk : decide (k < 0) = false) (hx' : strOk ⟨M, H - k, S, G⟩ = true) (hy' : strOk ⟨M', H' + k, S', G'⟩ = true) (zb : (M = b1 ∧ b2 = H - k ∧ S = b3 ∧ G = b4) ∧ M' = c1 ∧ c2 = H' + k ∧ S' = c3 ∧ G' = c4) (eb' : eb = 0) (w : World) :
    Calls Try.prog 11 #[.agg #[.int .i64 M, .int .i64 H, .int .i64 S, .int .i64 G], .agg #[.int .i64 M', .int .i64 H', .int .i64 S', .int .i64 G'], .int .i64 k] w fun e w' => e = .returned (.bool true) ∧ Below w.heap.size w w' := by
  have HK : Hid (kUp w w) := hide (Below.refl _ _)
  have Bs := strOk_iff.1 hs
  obtain ⟨x0, x1, x2, x3, x4, x5, x6, x7⟩ := Bs
  dsimp only at x0 x1 x2 x3 x4 x5 x6 x7
  obtain ⟨k0, k1⟩ := inB_iff.1 hin
  have w1' : IntKind.i64.wrap (H + k) = H + k := w64 (by omega) (by omega)
  have w2' : IntKind.i64.wrap (H - k) = H - k := w64 (by omega) (by omega)
  have Bt := strOk_iff.1 ht
  obtain ⟨y0, y1, y2, y3, y4, y5, y6, y7⟩ := Bt
  dsimp only at y0 y1 y2 y3 y4 y5 y6 y7
  have w3' : IntKind.i64.wrap (H' + k) = H' + k := w64 (by omega) (by omega)
  obtain ⟨rfl, rfl, rfl, rfl⟩ := za
  obtain ⟨⟨rfl, rfl, rfl, rfl⟩, rfl, rfl, rfl, rfl⟩ := zb
  subst ea' eb'
  go_enter Try.func11, Try.ntmps11
  go_upto_region 2 with (first | (go_at_call 26; refine (mkStr_is _ _ _ _ _).mono ?_; rintro e w1 ⟨rfl, o1, o2, rfl⟩) | (go_at_call 44; refine (heated_is _ _ _ _ _ _ _ (unhide HH) _).mono ?_; rintro e w2 ⟨rfl, o3, o4, o5, rfl⟩))
  refine know_here (by (repeat (first | exact kk (unhide HK) | apply kkbox | apply kkdrew | apply kkdrewN | apply kkalloc))) ?_
  intro V2 hKA
  (try simp only [World.size_alloc] at hKA)
  (try simp only [World.size_drew] at hKA)
  have HKA := hide hKA
  have HCA := ktells hKA
  (try dsimp only at HCA)
  refine Gen.begin_ [⟨10, 9, #[.int .i64 0, .int .i64 0, .int .i64 0, .int .i64 0], 42⟩, ⟨11, 10, #[.int .i64 0, .int .i64 0, .int .i64 0, .int .i64 0], 42⟩] 13 (by kernel_rfl) hKA (by rfl) ⟨fun x hx => by (simp only [List.mem_cons, List.not_mem_nil, or_false] at hx; rcases hx with rfl | rfl; all_goals exact ⟨_, by rfl, by rfl, by rfl, fun _ _ => by kernel_rfl⟩), by kernel_rfl, fun _ _ _ _ _ => Iff.rfl⟩ (fun okA => ?_)
  clear hKA
  refine Gen.take 0 (v := ?vv62) okA (by simp only [List.getElem?_toArray, List.getElem?_cons_zero]; rfl) (by kernel_rfl) (by kernel_rfl) (by kernel_rfl) (Or.inl ⟨by rfl, ?hh62⟩) ?_
  case hh62 => (intro wg hSw; have hc := ktells hSw; (try dsimp only at hc); go_simp; try with_reducible rfl)
  (try simp only [Act.put, List.setIfInBounds_toArray, List.set_cons_zero, List.set_cons_succ])
  refine Gen.take 2 (v := ?vv63) okA (by simp only [List.getElem?_toArray, List.getElem?_cons_zero, List.getElem?_cons_succ]; rfl) (by kernel_rfl) (by kernel_rfl) (by kernel_rfl) (Or.inl ⟨by rfl, ?hh63⟩) ?_
  case hh63 => (intro wg hSw; have hc := ktells hSw; (try dsimp only at hc); go_simp; try with_reducible rfl)
  (try simp only [Act.put, List.setIfInBounds_toArray, List.set_cons_zero, List.set_cons_succ])
  refine Gen.take 4 (v := ?vv64) okA (by simp only [List.getElem?_toArray, List.getElem?_cons_zero, List.getElem?_cons_succ]; rfl) (by kernel_rfl) (by kernel_rfl) (by kernel_rfl) (Or.inl ⟨by rfl, ?hh64⟩) ?_
  case hh64 => (intro wg hSw; have hc := ktells hSw; (try dsimp only at hc); go_simp; try with_reducible rfl)
  (try simp only [Act.put, List.setIfInBounds_toArray, List.set_cons_zero, List.set_cons_succ])
  refine Gen.step inferInstance Gen.size 1 okA (by kernel_rfl) inferInstance (by simp) (fun wg hKg hSg => wpOp_of (by simp only [List.getElem?_toArray, List.getElem?_cons_zero, List.getElem?_cons_succ]; rfl) (by rfl) ?_)
  go_simp
  refine (mkStr_is _ _ _ _ _).mono ?_
  rintro e wh ⟨rfl, o1, o2, rfl⟩
  (try dsimp only)
  refine Gen.stay rfl hKg (by (repeat (first | exact Below.refl _ _ | refine Below.allocs ?_ _ | refine Below.drew ?_ | refine Below.drewNs ?_ _))) ?_
  clear hKg hSg
  refine Gen.step inferInstance Gen.size 3 okA (by kernel_rfl) inferInstance (by simp) (fun wg hKg hSg => wpOp_of (by simp only [List.getElem?_toArray, List.getElem?_cons_zero, List.getElem?_cons_succ]; rfl) (by rfl) ?_)
  go_simp
  refine (mkStr_is _ _ _ _ _).mono ?_
  rintro e wh ⟨rfl, o1, o2, rfl⟩
  (try dsimp only)
  refine Gen.stay rfl hKg (by (repeat (first | exact Below.refl _ _ | refine Below.allocs ?_ _ | refine Below.drew ?_ | refine Below.drewNs ?_ _))) ?_
  clear hKg hSg
  refine Gen.step inferInstance Gen.size 5 okA (by kernel_rfl) inferInstance (by simp) (fun wg hKg hSg => wpOp_of (by simp only [List.getElem?_toArray, List.getElem?_cons_zero, List.getElem?_cons_succ]; rfl) (by rfl) ?_)
  go_simp
  refine (exchange_is _ _ _ _ _ _ _ _ _ _ _ _ _ _ _ _ _ _ (unhide HE) _).mono ?_
  rintro e wh ⟨rfl, hb1⟩
  (try dsimp only)
  refine Gen.stay rfl hKg hb1 ?_
  clear hKg hSg
  clear hb1
  refine Gen.take 6 (v := ?vv65) okA (by simp only [List.getElem?_toArray, List.getElem?_cons_zero, List.getElem?_cons_succ]; rfl) (by kernel_rfl) (by kernel_rfl) (by kernel_rfl) (Or.inl ⟨by rfl, ?hh65⟩) ?_
  case hh65 => (intro wg hSw; have hc := ktells hSw; (try dsimp only at hc); go_simp; try with_reducible rfl)
  (try simp only [Act.put, List.setIfInBounds_toArray, List.set_cons_zero, List.set_cons_succ])
  refine Gen.take 7 (v := ?vv66) okA (by simp only [List.getElem?_toArray, List.getElem?_cons_zero, List.getElem?_cons_succ]; rfl) (by kernel_rfl) (by kernel_rfl) (by kernel_rfl) (Or.inl ⟨by rfl, ?hh66⟩) ?_
  case hh66 => (intro wg hSw; have hc := ktells hSw; (try dsimp only at hc); go_simp; try with_reducible rfl)
  (try simp only [Act.put, List.setIfInBounds_toArray, List.set_cons_zero, List.set_cons_succ])
  refine Gen.take 8 (v := ?vv67) okA (by simp only [List.getElem?_toArray, List.getElem?_cons_zero, List.getElem?_cons_succ]; rfl) (by kernel_rfl) (by kernel_rfl) (by kernel_rfl) (Or.inl ⟨by rfl, ?hh67⟩) ?_
  case hh67 => (intro wg hSw; have hc := ktells hSw; (try dsimp only at hc); go_simp; try with_reducible rfl)
  (try simp only [Act.put, List.setIfInBounds_toArray, List.set_cons_zero, List.set_cons_succ])
  refine Gen.take 9 (v := ?vv68) okA (by simp only [List.getElem?_toArray, List.getElem?_cons_zero, List.getElem?_cons_succ]; rfl) (by kernel_rfl) (by kernel_rfl) (by kernel_rfl) (Or.inl ⟨by rfl, ?hh68⟩) ?_
  case hh68 => (intro wg hSw; have hc := ktells hSw; (try dsimp only at hc); go_simp; try with_reducible rfl)
  (try simp only [Act.put, List.setIfInBounds_toArray, List.set_cons_zero, List.set_cons_succ])
  refine Gen.finish inferInstance Gen.size okA (by kernel_rfl) inferInstance (by simp) ?_
  simp only [Gen.Fin, NewVar.put]
  (try simp only [Act.put, List.setIfInBounds_toArray, List.set_cons_zero, List.set_cons_succ])
  intro BA10 hnA10 BA11 hnA11 wf hKf hSf
  obtain ⟨wu, rfl, hg10, hg11, hup⟩ := graft2 (fun W => Below V2.heap.size V2 W) hKf.2.1.1 hKf.1.1 hSf.1
  have hz10 := hKf.2.1.2
  have hz11 := hKf.1.2
  have hne10_11 : BA10 ≠ BA11 := fun e => hnA11 (by simp [e])
  have hne11_10 : BA11 ≠ BA10 := fun e => hne10_11 e.symm
  clear hKf hSf
  refine Gen.one 12 (by kernel_rfl) (wpOp_of (by simp only [List.getElem?_toArray, List.getElem?_cons_zero, List.getElem?_cons_succ]; rfl) (by rfl) ?_)
  go_simp
  (try simp only [Act.put, List.setIfInBounds_toArray, List.set_cons_zero, List.set_cons_succ])
  refine ⟨⟨(belowRow (belowRow hup hz10 _) hz11 _), kafter (unhide HKA) (belowRow (belowRow hup hz10 _) hz11 _)⟩, ?_⟩
  refine Gen.one 13 (by kernel_rfl) (wpOp_of (by simp only [List.getElem?_toArray, List.getElem?_cons_zero, List.getElem?_cons_succ]; rfl) (by rfl) ?_)
  go_simp
  (try simp only [Act.put, List.setIfInBounds_toArray, List.set_cons_zero, List.set_cons_succ])
  refine ⟨⟨(belowRow (belowRow hup hz10 _) hz11 _), kafter (unhide HKA) (belowRow (belowRow hup hz10 _) hz11 _)⟩, ?_⟩
  refine Gen.one 14 (by kernel_rfl) (wpOp_of (by simp only [List.getElem?_toArray, List.getElem?_cons_zero, List.getElem?_cons_succ]; rfl) (by rfl) ?_)
  go_simp
  (try simp only [Act.put, List.setIfInBounds_toArray, List.set_cons_zero, List.set_cons_succ])
  refine ⟨⟨(belowRow (belowRow hup hz10 _) hz11 _), kafter (unhide HKA) (belowRow (belowRow hup hz10 _) hz11 _)⟩, ?_⟩
  refine Gen.done (K := (kAnd (kNew V2.heap.size BA10 _) (kAnd (kNew V2.heap.size BA11 _) _))) (by kernel_rfl) ⟨⟨(RowIs.other (RowIs.same hg10 _) hne10_11 _), hz10⟩, ⟨⟨(RowIs.same (IsRow.setRow hg11 _ _) _), hz11⟩, kafter (unhide HKA) (belowRow (belowRow hup hz10 _) hz11 _)⟩⟩ (fun WA hKA => ?_) _
  clear okA hup hg10 hz10 hg11 hz11
  have HK := hide hKA
  have HC := ktells hKA
  (try dsimp only at HC)
  clear hKA
  go_upto_region 6 with (first | (go_at_call 17; refine know_at (by (repeat (first | exact kk (unhide HK) | apply kkbox | apply kkdrew | apply kkdrewN | apply kkalloc))) (fun hKa => ?_); (try simp only [World.size_alloc] at hKa); (try simp only [World.size_drew] at hKa); refine (awake_any _).mono ?_; rintro e w1 ⟨rfl, hb1⟩; have HK := hide (kafter hKa hb1); clear hKa hb1; have HC := ktells (unhide HK); (try dsimp only at HC)) | (go_at_call 24; refine (rightStr_sym _ _ _ _ _).mono ?_; rintro e w1 ⟨rfl, o1, rfl⟩) | (go_at_call 31; refine (refIn_any _ _ _ _).mono ?_; rintro e w2 ⟨rfl, rfl⟩))
  refine know_here (by (repeat (first | exact kk (unhide HK) | apply kkbox | apply kkdrew | apply kkdrewN | apply kkalloc))) ?_
  intro V6 hKB
  (try simp only [World.size_alloc] at hKB)
  (try simp only [World.size_drew] at hKB)
  have HKB := hide hKB
  have HCB := ktells hKB
  (try dsimp only at HCB)
  refine Gen.begin_ [⟨2, 13, #[.int .i64 0, .int .i64 0, .int .i64 0, .int .i64 0], 39⟩, ⟨3, 14, #[.int .i64 0, .int .i64 0, .int .i64 0, .int .i64 0], 39⟩] 4 (by kernel_rfl) hKB (by rfl) ⟨fun x hx => by (simp only [List.mem_cons, List.not_mem_nil, or_false] at hx; rcases hx with rfl | rfl; all_goals exact ⟨_, by rfl, by rfl, by rfl, fun _ _ => by kernel_rfl⟩), by kernel_rfl, fun _ _ _ _ _ => Iff.rfl⟩ (fun okB => ?_)
  clear hKB
  refine Gen.take 0 (v := ?vv69) okB (by simp only [List.getElem?_toArray, List.getElem?_cons_zero]; rfl) (by kernel_rfl) (by kernel_rfl) (by kernel_rfl) (Or.inl ⟨by rfl, ?hh69⟩) ?_
  case hh69 => (intro wg hSw; have hc := ktells hSw; (try dsimp only at hc); go_simp; try with_reducible rfl)
  (try simp only [Act.put, List.setIfInBounds_toArray, List.set_cons_zero, List.set_cons_succ])
  refine Gen.take 1 (v := ?vv70) okB (by simp only [List.getElem?_toArray, List.getElem?_cons_zero, List.getElem?_cons_succ]; rfl) (by kernel_rfl) (by kernel_rfl) (by kernel_rfl) (Or.inl ⟨by rfl, ?hh70⟩) ?_
  case hh70 => (intro wg hSw; have hc := ktells hSw; (try dsimp only at hc); go_simp; try with_reducible rfl)
  (try simp only [Act.put, List.setIfInBounds_toArray, List.set_cons_zero, List.set_cons_succ])
  refine Gen.finish inferInstance Gen.size okB (by kernel_rfl) inferInstance (by simp) ?_
  simp only [Gen.Fin, NewVar.put]
  (try simp only [Act.put, List.setIfInBounds_toArray, List.set_cons_zero, List.set_cons_succ])
  intro BB2 hnB2 BB3 hnB3 wf hKf hSf
  obtain ⟨wu, rfl, hg2, hg3, hup⟩ := graft2 (fun W => Below V6.heap.size V6 W) hKf.2.1.1 hKf.1.1 hSf.1
  have hz2 := hKf.2.1.2
  have hz3 := hKf.1.2
  have hne2_3 : BB2 ≠ BB3 := fun e => hnB3 (by simp [e])
  have hne3_2 : BB3 ≠ BB2 := fun e => hne2_3 e.symm
  clear hKf hSf
  refine Gen.one 4 (by kernel_rfl) (wpOp_of (by simp only [List.getElem?_toArray, List.getElem?_cons_zero, List.getElem?_cons_succ]; rfl) (by rfl) ?_)
  go_simp
  (try simp only [Act.put, List.setIfInBounds_toArray, List.set_cons_zero, List.set_cons_succ])
  refine ⟨⟨(belowRow (belowRow hup hz2 _) hz3 _), kafter (unhide HKB) (belowRow (belowRow hup hz2 _) hz3 _)⟩, ?_⟩
  refine Gen.one 5 (by kernel_rfl) (wpOp_of (by simp only [List.getElem?_toArray, List.getElem?_cons_zero, List.getElem?_cons_succ]; rfl) (by rfl) ?_)
  go_simp
  (try simp only [Act.put, List.setIfInBounds_toArray, List.set_cons_zero, List.set_cons_succ])
  refine ⟨⟨(belowRow (belowRow hup hz2 _) hz3 _), kafter (unhide HKB) (belowRow (belowRow hup hz2 _) hz3 _)⟩, ?_⟩
  refine Gen.done (K := (kAnd (kNew V6.heap.size BB2 _) (kAnd (kNew V6.heap.size BB3 _) _))) (by kernel_rfl) ⟨⟨(RowIs.other (RowIs.same hg2 _) hne2_3 _), hz2⟩, ⟨⟨(RowIs.same (IsRow.setRow hg3 _ _) _), hz3⟩, kafter (unhide HKB) (belowRow (belowRow hup hz2 _) hz3 _)⟩⟩ (fun WB hKB => ?_) _
  clear okB hup hg2 hz2 hg3 hz3
  have HK := hide hKB
  have HC := ktells hKB
  (try dsimp only at HC)
  clear hKB
  obtain ⟨hx, hy, hb, hc, ha, ht', hs', hup⟩ := unhide HK
  have x2 := hx.2
  have x3 := hy.2
  obtain ⟨u, rfl, gx, gy, hu⟩ := graft2 (kAnd (kNew V2.heap.size BA10 _) (kAnd (kNew V2.heap.size BA11 _) (kAnd (kRow (w.heap.size + 1 + 1 + 1 + 1 + 1 + 1 + 1) _) (kAnd (kRow (w.heap.size + 1) _) (kAnd (kRow w.heap.size _) (kUp w)))))) hx.1 hy.1 ⟨hb, hc, ha, ht', hs', hup⟩
  clear hx hy hb hc ha ht' hs' hup HK HC
  have HC := ktells hu
  (try dsimp only at HC)
  have zx := gx.lt
  have zy := gy.lt
  have n2_0 : BA10 ≠ BB2 := by omega
  have m2_0 : BB2 ≠ BA10 := by omega
  have n3_0 : BA10 ≠ BB3 := by omega
  have m3_0 : BB3 ≠ BA10 := by omega
  have n2_1 : BA11 ≠ BB2 := by omega
  have m2_1 : BB2 ≠ BA11 := by omega
  have n3_1 : BA11 ≠ BB3 := by omega
  have m3_1 : BB3 ≠ BA11 := by omega
  have n2_2 : w.heap.size + 1 + 1 + 1 + 1 + 1 + 1 + 1 ≠ BB2 := by omega
  have m2_2 : BB2 ≠ w.heap.size + 1 + 1 + 1 + 1 + 1 + 1 + 1 := by omega
  have n3_2 : w.heap.size + 1 + 1 + 1 + 1 + 1 + 1 + 1 ≠ BB3 := by omega
  have m3_2 : BB3 ≠ w.heap.size + 1 + 1 + 1 + 1 + 1 + 1 + 1 := by omega
  have n2_3 : w.heap.size + 1 ≠ BB2 := by omega
  have m2_3 : BB2 ≠ w.heap.size + 1 := by omega
  have n3_3 : w.heap.size + 1 ≠ BB3 := by omega
  have m3_3 : BB3 ≠ w.heap.size + 1 := by omega
  have n2_4 : w.heap.size ≠ BB2 := by omega
  have m2_4 : BB2 ≠ w.heap.size := by omega
  have n3_4 : w.heap.size ≠ BB3 := by omega
  have m3_4 : BB3 ≠ w.heap.size := by omega
  have gw2 : w.heap.size ≤ BB2 := by omega
  have gw3 : w.heap.size ≤ BB3 := by omega
  go_upto_region 9 with fail
  obtain ⟨hb, hc, ha, ht', hs', hup⟩ := hu
  refine know_here (K := (kAnd (kRow BB2 _) (kAnd (kRow BB3 _) (kAnd (kNew V2.heap.size BA10 _) (kAnd (kNew V2.heap.size BA11 _) (kAnd (kRow (w.heap.size + 1 + 1 + 1 + 1 + 1 + 1 + 1) _) (kAnd (kRow (w.heap.size + 1) _) (kAnd (kRow w.heap.size _) (kUp w))))))))) ⟨⟨(RowIs.same gx _).other hne2_3 _, RowIs.same (gy.setRow _ _) _, ⟨(hb.1.other n2_0 _).other n3_0 _, hb.2⟩, ⟨(hc.1.other n2_1 _).other n3_1 _, hc.2⟩, (ha.other n2_2 _).other n3_2 _, (ht'.other n2_3 _).other n3_3 _, (hs'.other n2_4 _).other n3_4 _, belowRow (belowRow hup gw2 _) gw3 _⟩, inferInstance⟩ ?_
  intro WY hKY
  have HK := hide hKY
  clear HC gx gy hb hc ha ht' hs' hup zx zy
  have HC := ktells hKY
  (try dsimp only at HC)
  clear hKY
  go_upto_region 17 with (first | (go_at_call 17; refine know_at (by (repeat (first | exact kk (unhide HK) | apply kkbox | apply kkdrew | apply kkdrewN | apply kkalloc))) (fun hKa => ?_); (try simp only [World.size_alloc] at hKa); (try simp only [World.size_drew] at hKa); refine (awake_any _).mono ?_; rintro e w1 ⟨rfl, hb1⟩; have HK := hide (kafter hKa hb1); clear hKa hb1; have HC := ktells (unhide HK); (try dsimp only at HC)) | (go_at_call 24; refine (rightStr_sym _ _ _ _ _).mono ?_; rintro e w1 ⟨rfl, o1, rfl⟩) | (go_at_call 31; refine (refIn_any _ _ _ _).mono ?_; rintro e w2 ⟨rfl, rfl⟩))
  refine know_here (by (repeat (first | exact kk (unhide HK) | apply kkbox | apply kkdrew | apply kkdrewN | apply kkalloc))) ?_
  intro W16 hK16
  have HK := hide hK16
  clear HC
  have HC := ktells hK16
  (try dsimp only at HC)
  clear hK16
  obtain ⟨hx, hy, hb, hc, ha, ht', hs', hup⟩ := unhide HK
  obtain ⟨u, rfl, gx, gy, hu⟩ := graft2 (kAnd (kNew V2.heap.size BA10 _) (kAnd (kNew V2.heap.size BA11 _) (kAnd (kRow (w.heap.size + 1 + 1 + 1 + 1 + 1 + 1 + 1) _) (kAnd (kRow (w.heap.size + 1) _) (kAnd (kRow w.heap.size _) (kUp w)))))) hx hy ⟨hb, hc, ha, ht', hs', hup⟩
  clear hx hy hb hc ha ht' hs' hup HK HC
  have HC := ktells hu
  (try dsimp only at HC)
  have zx := gx.lt
  have zy := gy.lt
  go_wp2_with fail
  go_region
  go_upto_region 20 with fail
  obtain ⟨hb, hc, ha, ht', hs', hup⟩ := hu
  refine know_here (K := (kAnd (kRow BB2 _) (kAnd (kRow BB3 _) (kAnd (kNew V2.heap.size BA10 _) (kAnd (kNew V2.heap.size BA11 _) (kAnd (kRow (w.heap.size + 1 + 1 + 1 + 1 + 1 + 1 + 1) _) (kAnd (kRow (w.heap.size + 1) _) (kAnd (kRow w.heap.size _) (kUp w))))))))) ⟨Keeps.keep ((Below.refl _ _).drew) (show (kAnd (kRow BB2 _) (kAnd (kRow BB3 _) (kAnd (kNew V2.heap.size BA10 _) (kAnd (kNew V2.heap.size BA11 _) (kAnd (kRow (w.heap.size + 1 + 1 + 1 + 1 + 1 + 1 + 1) _) (kAnd (kRow (w.heap.size + 1) _) (kAnd (kRow w.heap.size _) (kUp w)))))))) _ from ⟨(RowIs.same gx _).other hne2_3 _, RowIs.same (gy.setRow _ _) _, ⟨(hb.1.other n2_0 _).other n3_0 _, hb.2⟩, ⟨(hc.1.other n2_1 _).other n3_1 _, hc.2⟩, (ha.other n2_2 _).other n3_2 _, (ht'.other n2_3 _).other n3_3 _, (hs'.other n2_4 _).other n3_4 _, belowRow (belowRow hup gw2 _) gw3 _⟩), inferInstance⟩ ?_
  intro WZ hKZ
  have HK := hide hKZ
  clear HC gx gy hb hc ha ht' hs' hup zx zy
  have HC := ktells hKZ
  (try dsimp only at HC)
  clear hKZ
  go_upto_region 22 with (first | (go_at_call 17; refine know_at (by (repeat (first | exact kk (unhide HK) | apply kkbox | apply kkdrew | apply kkdrewN | apply kkalloc))) (fun hKa => ?_); (try simp only [World.size_alloc] at hKa); (try simp only [World.size_drew] at hKa); refine (awake_any _).mono ?_; rintro e w1 ⟨rfl, hb1⟩; have HK := hide (kafter hKa hb1); clear hKa hb1; have HC := ktells (unhide HK); (try dsimp only at HC)) | (go_at_call 24; refine (rightStr_sym _ _ _ _ _).mono ?_; rintro e w1 ⟨rfl, o1, rfl⟩) | (go_at_call 31; refine (refIn_any _ _ _ _).mono ?_; rintro e w2 ⟨rfl, rfl⟩))
  refine know_here (by (repeat (first | exact kk (unhide HK) | apply kkbox | apply kkdrew | apply kkdrewN | apply kkalloc))) ?_
  intro V22 hKD
  (try simp only [World.size_alloc] at hKD)
  (try simp only [World.size_drew] at hKD)
  have HKD := hide hKD
  have HCD := ktells hKD
  (try dsimp only at HCD)
  refine Gen.begin_ [] 18 (by kernel_rfl) hKD (by rfl) ⟨fun x hx => absurd hx (by simp), by kernel_rfl, fun _ _ _ _ _ => Iff.rfl⟩ (fun okD => ?_)
  clear hKD
  refine Gen.take 0 (v := ?vv71) okD (by simp only [List.getElem?_toArray, List.getElem?_cons_zero]; rfl) (by kernel_rfl) (by kernel_rfl) (by kernel_rfl) (Or.inl ⟨by rfl, ?hh71⟩) ?_
  case hh71 => (intro wg hSw; have hc := ktells hSw; (try dsimp only at hc); go_simp; try with_reducible rfl)
  (try simp only [Act.put, List.setIfInBounds_toArray, List.set_cons_zero, List.set_cons_succ])
  refine Gen.take 1 (v := ?vv72) okD (by simp only [List.getElem?_toArray, List.getElem?_cons_zero, List.getElem?_cons_succ]; rfl) (by kernel_rfl) (by kernel_rfl) (by kernel_rfl) (Or.inl ⟨by rfl, ?hh72⟩) ?_
  case hh72 => (intro wg hSw; have hc := ktells hSw; (try dsimp only at hc); go_simp; try with_reducible rfl)
  (try simp only [Act.put, List.setIfInBounds_toArray, List.set_cons_zero, List.set_cons_succ])
  refine Gen.take 2 (v := ?vv73) okD (by simp only [List.getElem?_toArray, List.getElem?_cons_zero, List.getElem?_cons_succ]; rfl) (by kernel_rfl) (by kernel_rfl) (by kernel_rfl) (Or.inl ⟨by rfl, ?hh73⟩) ?_
  case hh73 => (intro wg hSw; have hc := ktells hSw; (try dsimp only at hc); go_simp; try with_reducible rfl)
  (try simp only [Act.put, List.setIfInBounds_toArray, List.set_cons_zero, List.set_cons_succ])
  refine Gen.take 3 (v := ?vv74) okD (by simp only [List.getElem?_toArray, List.getElem?_cons_zero, List.getElem?_cons_succ]; rfl) (by kernel_rfl) (by kernel_rfl) (by kernel_rfl) (Or.inl ⟨by rfl, ?hh74⟩) ?_
  case hh74 => (intro wg hSw; have hc := ktells hSw; (try dsimp only at hc); go_simp; try with_reducible rfl)
  (try simp only [Act.put, List.setIfInBounds_toArray, List.set_cons_zero, List.set_cons_succ])
  refine Gen.take 4 (v := ?vv75) okD (by simp only [List.getElem?_toArray, List.getElem?_cons_zero, List.getElem?_cons_succ]; rfl) (by kernel_rfl) (by kernel_rfl) (by kernel_rfl) (Or.inl ⟨by rfl, ?hh75⟩) ?_
  case hh75 => (intro wg hSw; have hc := ktells hSw; (try dsimp only at hc); go_simp; try with_reducible rfl)
  (try simp only [Act.put, List.setIfInBounds_toArray, List.set_cons_zero, List.set_cons_succ])
  refine Gen.step inferInstance Gen.size 5 okD (by kernel_rfl) inferInstance (by simp) (fun wg hKg hSg => wpOp_of (by simp only [List.getElem?_toArray, List.getElem?_cons_zero, List.getElem?_cons_succ]; rfl) (by rfl) ?_)
  go_simp
  refine (mkStr_is _ _ _ _ _).mono ?_
  rintro e wh ⟨rfl, o1, o2, rfl⟩
  (try dsimp only)
  refine Gen.stay rfl hKg (by (repeat (first | exact Below.refl _ _ | refine Below.allocs ?_ _ | refine Below.drew ?_ | refine Below.drewNs ?_ _))) ?_
  clear hKg hSg
  refine Gen.take 6 (v := ?vv76) okD (by simp only [List.getElem?_toArray, List.getElem?_cons_zero, List.getElem?_cons_succ]; rfl) (by kernel_rfl) (by kernel_rfl) (by kernel_rfl) (Or.inl ⟨by rfl, ?hh76⟩) ?_
  case hh76 => (intro wg hSw; have hc := ktells hSw; (try dsimp only at hc); go_simp; try with_reducible rfl)
  (try simp only [Act.put, List.setIfInBounds_toArray, List.set_cons_zero, List.set_cons_succ])
  refine Gen.take 7 (v := ?vv77) okD (by simp only [List.getElem?_toArray, List.getElem?_cons_zero, List.getElem?_cons_succ]; rfl) (by kernel_rfl) (by kernel_rfl) (by kernel_rfl) (Or.inl ⟨by rfl, ?hh77⟩) ?_
  case hh77 => (intro wg hSw; have hc := ktells hSw; (try dsimp only at hc); go_simp; try with_reducible rfl)
  (try simp only [Act.put, List.setIfInBounds_toArray, List.set_cons_zero, List.set_cons_succ])
  refine Gen.take 8 (v := ?vv78) okD (by simp only [List.getElem?_toArray, List.getElem?_cons_zero, List.getElem?_cons_succ]; rfl) (by kernel_rfl) (by kernel_rfl) (by kernel_rfl) (Or.inl ⟨by rfl, ?hh78⟩) ?_
  case hh78 => (intro wg hSw; have hc := ktells hSw; (try dsimp only at hc); go_simp; try with_reducible rfl)
  (try simp only [Act.put, List.setIfInBounds_toArray, List.set_cons_zero, List.set_cons_succ])
  refine Gen.take 9 (v := ?vv79) okD (by simp only [List.getElem?_toArray, List.getElem?_cons_zero, List.getElem?_cons_succ]; rfl) (by kernel_rfl) (by kernel_rfl) (by kernel_rfl) (Or.inl ⟨by rfl, ?hh79⟩) ?_
  case hh79 => (intro wg hSw; have hc := ktells hSw; (try dsimp only at hc); go_simp; try with_reducible rfl)
  (try simp only [Act.put, List.setIfInBounds_toArray, List.set_cons_zero, List.set_cons_succ])
  refine Gen.take 10 (v := ?vv80) okD (by simp only [List.getElem?_toArray, List.getElem?_cons_zero, List.getElem?_cons_succ]; rfl) (by kernel_rfl) (by kernel_rfl) (by kernel_rfl) (Or.inl ⟨by rfl, ?hh80⟩) ?_
  case hh80 => (intro wg hSw; have hc := ktells hSw; (try dsimp only at hc); go_simp; try with_reducible rfl)
  (try simp only [Act.put, List.setIfInBounds_toArray, List.set_cons_zero, List.set_cons_succ])
  refine Gen.step inferInstance Gen.size 11 okD (by kernel_rfl) inferInstance (by simp) (fun wg hKg hSg => wpOp_of (by simp only [List.getElem?_toArray, List.getElem?_cons_zero, List.getElem?_cons_succ]; rfl) (by rfl) ?_)
  go_simp
  refine (mkStr_is _ _ _ _ _).mono ?_
  rintro e wh ⟨rfl, o1, o2, rfl⟩
  (try dsimp only)
  refine Gen.stay rfl hKg (by (repeat (first | exact Below.refl _ _ | refine Below.allocs ?_ _ | refine Below.drew ?_ | refine Below.drewNs ?_ _))) ?_
  clear hKg hSg
  refine Gen.take 12 (v := ?vv81) okD (by simp only [List.getElem?_toArray, List.getElem?_cons_zero, List.getElem?_cons_succ]; rfl) (by kernel_rfl) (by kernel_rfl) (by kernel_rfl) (Or.inl ⟨by rfl, ?hh81⟩) ?_
  case hh81 => (intro wg hSw; have hc := ktells hSw; (try dsimp only at hc); go_simp; try with_reducible rfl)
  (try simp only [Act.put, List.setIfInBounds_toArray, List.set_cons_zero, List.set_cons_succ])
  refine Gen.take 13 (v := ?vv82) okD (by simp only [List.getElem?_toArray, List.getElem?_cons_zero, List.getElem?_cons_succ]; rfl) (by kernel_rfl) (by kernel_rfl) (by kernel_rfl) (Or.inl ⟨by rfl, ?hh82⟩) ?_
  case hh82 => (intro wg hSw; have hc := ktells hSw; (try dsimp only at hc); go_simp; try with_reducible rfl)
  (try simp only [Act.put, List.setIfInBounds_toArray, List.set_cons_zero, List.set_cons_succ])
  refine Gen.take 14 (v := ?vv83) okD (by simp only [List.getElem?_toArray, List.getElem?_cons_zero, List.getElem?_cons_succ]; rfl) (by kernel_rfl) (by kernel_rfl) (by kernel_rfl) (Or.inl ⟨by rfl, ?hh83⟩) ?_
  case hh83 => (intro wg hSw; have hc := ktells hSw; (try dsimp only at hc); go_simp; try with_reducible rfl)
  (try simp only [Act.put, List.setIfInBounds_toArray, List.set_cons_zero, List.set_cons_succ])
  refine Gen.step inferInstance Gen.size 15 okD (by kernel_rfl) inferInstance (by simp) (fun wg hKg hSg => wpOp_of (by simp only [List.getElem?_toArray, List.getElem?_cons_zero, List.getElem?_cons_succ]; rfl) (by rfl) ?_)
  go_simp
  refine (awake_any _).mono ?_
  rintro e wh ⟨rfl, hb1⟩
  (try dsimp only)
  refine Gen.stay rfl hKg hb1 ?_
  clear hKg hSg
  clear hb1
  refine Gen.take 16 (v := ?vv84) okD (by simp only [List.getElem?_toArray, List.getElem?_cons_zero, List.getElem?_cons_succ]; rfl) (by kernel_rfl) (by kernel_rfl) (by kernel_rfl) (Or.inl ⟨by rfl, ?hh84⟩) ?_
  case hh84 => (intro wg hSw; have hc := ktells hSw; (try dsimp only at hc); go_simp; try with_reducible rfl)
  (try simp only [Act.put, List.setIfInBounds_toArray, List.set_cons_zero, List.set_cons_succ])
  refine Gen.finish inferInstance Gen.size okD (by kernel_rfl) inferInstance (by simp) ?_
  simp only [Gen.Fin]
  intro  wf hKf hSf
  have hup := hSf.1
  clear hKf hSf
  refine Gen.one 17 (by kernel_rfl) (wpOp_of (by simp only [List.getElem?_toArray, List.getElem?_cons_zero, List.getElem?_cons_succ]; rfl) (by rfl) ?_)
  go_simp
  (try simp only [Act.put, List.setIfInBounds_toArray, List.set_cons_zero, List.set_cons_succ])
  refine ⟨⟨hup, kafter (unhide HKD) hup⟩, ?_⟩
  refine Gen.done (by kernel_rfl) (kafter (unhide HKD) hup) (fun WD hKD => ?_) _
  clear okD hup 
  have HK := hide hKD
  have HC := ktells hKD
  (try dsimp only at HC)
  clear hKD
  go_wp2_with (first | (go_at_call 17; refine know_at (by (repeat (first | exact kk (unhide HK) | apply kkbox | apply kkdrew | apply kkdrewN | apply kkalloc))) (fun hKa => ?_); (try simp only [World.size_alloc] at hKa); (try simp only [World.size_drew] at hKa); refine (awake_any _).mono ?_; rintro e w1 ⟨rfl, hb1⟩; have HK := hide (kafter hKa hb1); clear hKa hb1; have HC := ktells (unhide HK); (try dsimp only at HC)) | (go_at_call 24; refine (rightStr_sym _ _ _ _ _).mono ?_; rintro e w1 ⟨rfl, o1, rfl⟩) | (go_at_call 31; refine (refIn_any _ _ _ _).mono ?_; rintro e w2 ⟨rfl, rfl⟩))
  all_goals (go_ret; exact ⟨rfl, kup (unhide HK)⟩)

set_option maxRecDepth 100000 in
set_option maxHeartbeats 12800000 in
theorem heats4g (M H S G M' H' S' G' k a1 a2 a3 a4 ea b1 b2 b3 b4 c1 c2 c3 c4 eb : Int) (HH : Hid (heatR ⟨M, H, S, G⟩ k = (⟨a1, a2, a3, a4⟩, ea))) (HE : Hid (exR ⟨M, H, S, G⟩ ⟨M', H', S', G'⟩ k = (⟨b1, b2, b3, b4⟩, ⟨c1, c2, c3, c4⟩, eb))) (hs : strOk ⟨M, H, S, G⟩ = true) (hin : inB k (-5000000000) 5000000000 = true) (ht : strOk ⟨M', H', S', G'⟩ = false) (hx : strOk ⟨M, H + k, S, G⟩ = true) (za : M = a1 ∧ a2 = H + k ∧ S = a3 ∧ G = a4) (ea' : ea = 0) (zb : (b1 = 0 ∧ b2 = 0 ∧ b3 = 0 ∧ b4 = 0) ∧ c1 = 0 ∧ c2 = 0 ∧ c3 = 0 ∧ c4 = 0) (eb' : eb = 1) (w : World) :
    Calls Try.prog 11 #[.agg #[.int .i64 M, .int .i64 H, .int .i64 S, .int .i64 G], .agg #[.int .i64 M', .int .i64 H', .int .i64 S', .int .i64 G'], .int .i64 k] w fun e w' => e = .returned (.bool true) ∧ Below w.heap.size w w' := by
  have HK : Hid (kUp w w) := hide (Below.refl _ _)
  have Bs := strOk_iff.1 hs
  obtain ⟨x0, x1, x2, x3, x4, x5, x6, x7⟩ := Bs
  dsimp only at x0 x1 x2 x3 x4 x5 x6 x7
  obtain ⟨k0, k1⟩ := inB_iff.1 hin
  have w1' : IntKind.i64.wrap (H + k) = H + k := w64 (by omega) (by omega)
  have w2' : IntKind.i64.wrap (H - k) = H - k := w64 (by omega) (by omega)
  obtain ⟨rfl, rfl, rfl, rfl⟩ := za
  obtain ⟨⟨rfl, rfl, rfl, rfl⟩, rfl, rfl, rfl, rfl⟩ := zb
  subst ea' eb'
  go_enter Try.func11, Try.ntmps11
  go_upto_region 2 with (first | (go_at_call 26; refine (mkStr_is _ _ _ _ _).mono ?_; rintro e w1 ⟨rfl, o1, o2, rfl⟩) | (go_at_call 44; refine (heated_is _ _ _ _ _ _ _ (unhide HH) _).mono ?_; rintro e w2 ⟨rfl, o3, o4, o5, rfl⟩))
  refine know_here (by (repeat (first | exact kk (unhide HK) | apply kkbox | apply kkdrew | apply kkdrewN | apply kkalloc))) ?_
  intro V2 hKA
  (try simp only [World.size_alloc] at hKA)
  (try simp only [World.size_drew] at hKA)
  have HKA := hide hKA
  have HCA := ktells hKA
  (try dsimp only at HCA)
  refine Gen.begin_ [⟨10, 9, #[.int .i64 0, .int .i64 0, .int .i64 0, .int .i64 0], 42⟩, ⟨11, 10, #[.int .i64 0, .int .i64 0, .int .i64 0, .int .i64 0], 42⟩] 13 (by kernel_rfl) hKA (by rfl) ⟨fun x hx => by (simp only [List.mem_cons, List.not_mem_nil, or_false] at hx; rcases hx with rfl | rfl; all_goals exact ⟨_, by rfl, by rfl, by rfl, fun _ _ => by kernel_rfl⟩), by kernel_rfl, fun _ _ _ _ _ => Iff.rfl⟩ (fun okA => ?_)
  clear hKA
  refine Gen.take 0 (v := ?vv85) okA (by simp only [List.getElem?_toArray, List.getElem?_cons_zero]; rfl) (by kernel_rfl) (by kernel_rfl) (by kernel_rfl) (Or.inl ⟨by rfl, ?hh85⟩) ?_
  case hh85 => (intro wg hSw; have hc := ktells hSw; (try dsimp only at hc); go_simp; try with_reducible rfl)
  (try simp only [Act.put, List.setIfInBounds_toArray, List.set_cons_zero, List.set_cons_succ])
  refine Gen.take 2 (v := ?vv86) okA (by simp only [List.getElem?_toArray, List.getElem?_cons_zero, List.getElem?_cons_succ]; rfl) (by kernel_rfl) (by kernel_rfl) (by kernel_rfl) (Or.inl ⟨by rfl, ?hh86⟩) ?_
  case hh86 => (intro wg hSw; have hc := ktells hSw; (try dsimp only at hc); go_simp; try with_reducible rfl)
  (try simp only [Act.put, List.setIfInBounds_toArray, List.set_cons_zero, List.set_cons_succ])
  refine Gen.take 4 (v := ?vv87) okA (by simp only [List.getElem?_toArray, List.getElem?_cons_zero, List.getElem?_cons_succ]; rfl) (by kernel_rfl) (by kernel_rfl) (by kernel_rfl) (Or.inl ⟨by rfl, ?hh87⟩) ?_
  case hh87 => (intro wg hSw; have hc := ktells hSw; (try dsimp only at hc); go_simp; try with_reducible rfl)
  (try simp only [Act.put, List.setIfInBounds_toArray, List.set_cons_zero, List.set_cons_succ])
  refine Gen.step inferInstance Gen.size 1 okA (by kernel_rfl) inferInstance (by simp) (fun wg hKg hSg => wpOp_of (by simp only [List.getElem?_toArray, List.getElem?_cons_zero, List.getElem?_cons_succ]; rfl) (by rfl) ?_)
  go_simp
  refine (mkStr_is _ _ _ _ _).mono ?_
  rintro e wh ⟨rfl, o1, o2, rfl⟩
  (try dsimp only)
  refine Gen.stay rfl hKg (by (repeat (first | exact Below.refl _ _ | refine Below.allocs ?_ _ | refine Below.drew ?_ | refine Below.drewNs ?_ _))) ?_
  clear hKg hSg
  refine Gen.step inferInstance Gen.size 3 okA (by kernel_rfl) inferInstance (by simp) (fun wg hKg hSg => wpOp_of (by simp only [List.getElem?_toArray, List.getElem?_cons_zero, List.getElem?_cons_succ]; rfl) (by rfl) ?_)
  go_simp
  refine (mkStr_is _ _ _ _ _).mono ?_
  rintro e wh ⟨rfl, o1, o2, rfl⟩
  (try dsimp only)
  refine Gen.stay rfl hKg (by (repeat (first | exact Below.refl _ _ | refine Below.allocs ?_ _ | refine Below.drew ?_ | refine Below.drewNs ?_ _))) ?_
  clear hKg hSg
  refine Gen.step inferInstance Gen.size 5 okA (by kernel_rfl) inferInstance (by simp) (fun wg hKg hSg => wpOp_of (by simp only [List.getElem?_toArray, List.getElem?_cons_zero, List.getElem?_cons_succ]; rfl) (by rfl) ?_)
  go_simp
  refine (exchange_is _ _ _ _ _ _ _ _ _ _ _ _ _ _ _ _ _ _ (unhide HE) _).mono ?_
  rintro e wh ⟨rfl, hb1⟩
  (try dsimp only)
  refine Gen.stay rfl hKg hb1 ?_
  clear hKg hSg
  clear hb1
  refine Gen.take 6 (v := ?vv88) okA (by simp only [List.getElem?_toArray, List.getElem?_cons_zero, List.getElem?_cons_succ]; rfl) (by kernel_rfl) (by kernel_rfl) (by kernel_rfl) (Or.inl ⟨by rfl, ?hh88⟩) ?_
  case hh88 => (intro wg hSw; have hc := ktells hSw; (try dsimp only at hc); go_simp; try with_reducible rfl)
  (try simp only [Act.put, List.setIfInBounds_toArray, List.set_cons_zero, List.set_cons_succ])
  refine Gen.take 7 (v := ?vv89) okA (by simp only [List.getElem?_toArray, List.getElem?_cons_zero, List.getElem?_cons_succ]; rfl) (by kernel_rfl) (by kernel_rfl) (by kernel_rfl) (Or.inl ⟨by rfl, ?hh89⟩) ?_
  case hh89 => (intro wg hSw; have hc := ktells hSw; (try dsimp only at hc); go_simp; try with_reducible rfl)
  (try simp only [Act.put, List.setIfInBounds_toArray, List.set_cons_zero, List.set_cons_succ])
  refine Gen.take 8 (v := ?vv90) okA (by simp only [List.getElem?_toArray, List.getElem?_cons_zero, List.getElem?_cons_succ]; rfl) (by kernel_rfl) (by kernel_rfl) (by kernel_rfl) (Or.inl ⟨by rfl, ?hh90⟩) ?_
  case hh90 => (intro wg hSw; have hc := ktells hSw; (try dsimp only at hc); go_simp; try with_reducible rfl)
  (try simp only [Act.put, List.setIfInBounds_toArray, List.set_cons_zero, List.set_cons_succ])
  refine Gen.take 9 (v := ?vv91) okA (by simp only [List.getElem?_toArray, List.getElem?_cons_zero, List.getElem?_cons_succ]; rfl) (by kernel_rfl) (by kernel_rfl) (by kernel_rfl) (Or.inl ⟨by rfl, ?hh91⟩) ?_
  case hh91 => (intro wg hSw; have hc := ktells hSw; (try dsimp only at hc); go_simp; try with_reducible rfl)
  (try simp only [Act.put, List.setIfInBounds_toArray, List.set_cons_zero, List.set_cons_succ])
  refine Gen.finish inferInstance Gen.size okA (by kernel_rfl) inferInstance (by simp) ?_
  simp only [Gen.Fin, NewVar.put]
  (try simp only [Act.put, List.setIfInBounds_toArray, List.set_cons_zero, List.set_cons_succ])
  intro BA10 hnA10 BA11 hnA11 wf hKf hSf
  obtain ⟨wu, rfl, hg10, hg11, hup⟩ := graft2 (fun W => Below V2.heap.size V2 W) hKf.2.1.1 hKf.1.1 hSf.1
  have hz10 := hKf.2.1.2
  have hz11 := hKf.1.2
  have hne10_11 : BA10 ≠ BA11 := fun e => hnA11 (by simp [e])
  have hne11_10 : BA11 ≠ BA10 := fun e => hne10_11 e.symm
  clear hKf hSf
  refine Gen.one 12 (by kernel_rfl) (wpOp_of (by simp only [List.getElem?_toArray, List.getElem?_cons_zero, List.getElem?_cons_succ]; rfl) (by rfl) ?_)
  go_simp
  (try simp only [Act.put, List.setIfInBounds_toArray, List.set_cons_zero, List.set_cons_succ])
  refine ⟨⟨(belowRow (belowRow hup hz10 _) hz11 _), kafter (unhide HKA) (belowRow (belowRow hup hz10 _) hz11 _)⟩, ?_⟩
  refine Gen.one 13 (by kernel_rfl) (wpOp_of (by simp only [List.getElem?_toArray, List.getElem?_cons_zero, List.getElem?_cons_succ]; rfl) (by rfl) ?_)
  go_simp
  (try simp only [Act.put, List.setIfInBounds_toArray, List.set_cons_zero, List.set_cons_succ])
  refine ⟨⟨(belowRow (belowRow hup hz10 _) hz11 _), kafter (unhide HKA) (belowRow (belowRow hup hz10 _) hz11 _)⟩, ?_⟩
  refine Gen.one 14 (by kernel_rfl) (wpOp_of (by simp only [List.getElem?_toArray, List.getElem?_cons_zero, List.getElem?_cons_succ]; rfl) (by rfl) ?_)
  go_simp
  (try simp only [Act.put, List.setIfInBounds_toArray, List.set_cons_zero, List.set_cons_succ])
  refine ⟨⟨(belowRow (belowRow hup hz10 _) hz11 _), kafter (unhide HKA) (belowRow (belowRow hup hz10 _) hz11 _)⟩, ?_⟩
  refine Gen.done (K := (kAnd (kNew V2.heap.size BA10 _) (kAnd (kNew V2.heap.size BA11 _) _))) (by kernel_rfl) ⟨⟨(RowIs.other (RowIs.same hg10 _) hne10_11 _), hz10⟩, ⟨⟨(RowIs.same (IsRow.setRow hg11 _ _) _), hz11⟩, kafter (unhide HKA) (belowRow (belowRow hup hz10 _) hz11 _)⟩⟩ (fun WA hKA => ?_) _
  clear okA hup hg10 hz10 hg11 hz11
  have HK := hide hKA
  have HC := ktells hKA
  (try dsimp only at HC)
  clear hKA
  go_upto_region 6 with (first | (go_at_call 17; refine know_at (by (repeat (first | exact kk (unhide HK) | apply kkbox | apply kkdrew | apply kkdrewN | apply kkalloc))) (fun hKa => ?_); (try simp only [World.size_alloc] at hKa); (try simp only [World.size_drew] at hKa); refine (awake_any _).mono ?_; rintro e w1 ⟨rfl, hb1⟩; have HK := hide (kafter hKa hb1); clear hKa hb1; have HC := ktells (unhide HK); (try dsimp only at HC)) | (go_at_call 24; refine (rightStr_sym _ _ _ _ _).mono ?_; rintro e w1 ⟨rfl, o1, rfl⟩) | (go_at_call 31; refine (refIn_any _ _ _ _).mono ?_; rintro e w2 ⟨rfl, rfl⟩))
  refine know_here (by (repeat (first | exact kk (unhide HK) | apply kkbox | apply kkdrew | apply kkdrewN | apply kkalloc))) ?_
  intro V6 hKB
  (try simp only [World.size_alloc] at hKB)
  (try simp only [World.size_drew] at hKB)
  have HKB := hide hKB
  have HCB := ktells hKB
  (try dsimp only at HCB)
  refine Gen.begin_ [⟨2, 13, #[.int .i64 0, .int .i64 0, .int .i64 0, .int .i64 0], 39⟩, ⟨3, 14, #[.int .i64 0, .int .i64 0, .int .i64 0, .int .i64 0], 39⟩] 4 (by kernel_rfl) hKB (by rfl) ⟨fun x hx => by (simp only [List.mem_cons, List.not_mem_nil, or_false] at hx; rcases hx with rfl | rfl; all_goals exact ⟨_, by rfl, by rfl, by rfl, fun _ _ => by kernel_rfl⟩), by kernel_rfl, fun _ _ _ _ _ => Iff.rfl⟩ (fun okB => ?_)
  clear hKB
  refine Gen.take 0 (v := ?vv92) okB (by simp only [List.getElem?_toArray, List.getElem?_cons_zero]; rfl) (by kernel_rfl) (by kernel_rfl) (by kernel_rfl) (Or.inl ⟨by rfl, ?hh92⟩) ?_
  case hh92 => (intro wg hSw; have hc := ktells hSw; (try dsimp only at hc); go_simp; try with_reducible rfl)
  (try simp only [Act.put, List.setIfInBounds_toArray, List.set_cons_zero, List.set_cons_succ])
  refine Gen.take 1 (v := ?vv93) okB (by simp only [List.getElem?_toArray, List.getElem?_cons_zero, List.getElem?_cons_succ]; rfl) (by kernel_rfl) (by kernel_rfl) (by kernel_rfl) (Or.inl ⟨by rfl, ?hh93⟩) ?_
  case hh93 => (intro wg hSw; have hc := ktells hSw; (try dsimp only at hc); go_simp; try with_reducible rfl)
  (try simp only [Act.put, List.setIfInBounds_toArray, List.set_cons_zero, List.set_cons_succ])
  refine Gen.finish inferInstance Gen.size okB (by kernel_rfl) inferInstance (by simp) ?_
  simp only [Gen.Fin, NewVar.put]
  (try simp only [Act.put, List.setIfInBounds_toArray, List.set_cons_zero, List.set_cons_succ])
  intro BB2 hnB2 BB3 hnB3 wf hKf hSf
  obtain ⟨wu, rfl, hg2, hg3, hup⟩ := graft2 (fun W => Below V6.heap.size V6 W) hKf.2.1.1 hKf.1.1 hSf.1
  have hz2 := hKf.2.1.2
  have hz3 := hKf.1.2
  have hne2_3 : BB2 ≠ BB3 := fun e => hnB3 (by simp [e])
  have hne3_2 : BB3 ≠ BB2 := fun e => hne2_3 e.symm
  clear hKf hSf
  refine Gen.one 4 (by kernel_rfl) (wpOp_of (by simp only [List.getElem?_toArray, List.getElem?_cons_zero, List.getElem?_cons_succ]; rfl) (by rfl) ?_)
  go_simp
  (try simp only [Act.put, List.setIfInBounds_toArray, List.set_cons_zero, List.set_cons_succ])
  refine ⟨⟨(belowRow (belowRow hup hz2 _) hz3 _), kafter (unhide HKB) (belowRow (belowRow hup hz2 _) hz3 _)⟩, ?_⟩
  refine Gen.one 5 (by kernel_rfl) (wpOp_of (by simp only [List.getElem?_toArray, List.getElem?_cons_zero, List.getElem?_cons_succ]; rfl) (by rfl) ?_)
  go_simp
  (try simp only [Act.put, List.setIfInBounds_toArray, List.set_cons_zero, List.set_cons_succ])
  refine ⟨⟨(belowRow (belowRow hup hz2 _) hz3 _), kafter (unhide HKB) (belowRow (belowRow hup hz2 _) hz3 _)⟩, ?_⟩
  refine Gen.done (K := (kAnd (kNew V6.heap.size BB2 _) (kAnd (kNew V6.heap.size BB3 _) _))) (by kernel_rfl) ⟨⟨(RowIs.other (RowIs.same hg2 _) hne2_3 _), hz2⟩, ⟨⟨(RowIs.same (IsRow.setRow hg3 _ _) _), hz3⟩, kafter (unhide HKB) (belowRow (belowRow hup hz2 _) hz3 _)⟩⟩ (fun WB hKB => ?_) _
  clear okB hup hg2 hz2 hg3 hz3
  have HK := hide hKB
  have HC := ktells hKB
  (try dsimp only at HC)
  clear hKB
  obtain ⟨hx, hy, hb, hc, ha, ht', hs', hup⟩ := unhide HK
  have x2 := hx.2
  have x3 := hy.2
  obtain ⟨u, rfl, gx, gy, hu⟩ := graft2 (kAnd (kNew V2.heap.size BA10 _) (kAnd (kNew V2.heap.size BA11 _) (kAnd (kRow (w.heap.size + 1 + 1 + 1 + 1 + 1 + 1 + 1) _) (kAnd (kRow (w.heap.size + 1) _) (kAnd (kRow w.heap.size _) (kUp w)))))) hx.1 hy.1 ⟨hb, hc, ha, ht', hs', hup⟩
  clear hx hy hb hc ha ht' hs' hup HK HC
  have HC := ktells hu
  (try dsimp only at HC)
  have zx := gx.lt
  have zy := gy.lt
  have n2_0 : BA10 ≠ BB2 := by omega
  have m2_0 : BB2 ≠ BA10 := by omega
  have n3_0 : BA10 ≠ BB3 := by omega
  have m3_0 : BB3 ≠ BA10 := by omega
  have n2_1 : BA11 ≠ BB2 := by omega
  have m2_1 : BB2 ≠ BA11 := by omega
  have n3_1 : BA11 ≠ BB3 := by omega
  have m3_1 : BB3 ≠ BA11 := by omega
  have n2_2 : w.heap.size + 1 + 1 + 1 + 1 + 1 + 1 + 1 ≠ BB2 := by omega
  have m2_2 : BB2 ≠ w.heap.size + 1 + 1 + 1 + 1 + 1 + 1 + 1 := by omega
  have n3_2 : w.heap.size + 1 + 1 + 1 + 1 + 1 + 1 + 1 ≠ BB3 := by omega
  have m3_2 : BB3 ≠ w.heap.size + 1 + 1 + 1 + 1 + 1 + 1 + 1 := by omega
  have n2_3 : w.heap.size + 1 ≠ BB2 := by omega
  have m2_3 : BB2 ≠ w.heap.size + 1 := by omega
  have n3_3 : w.heap.size + 1 ≠ BB3 := by omega
  have m3_3 : BB3 ≠ w.heap.size + 1 := by omega
  have n2_4 : w.heap.size ≠ BB2 := by omega
  have m2_4 : BB2 ≠ w.heap.size := by omega
  have n3_4 : w.heap.size ≠ BB3 := by omega
  have m3_4 : BB3 ≠ w.heap.size := by omega
  have gw2 : w.heap.size ≤ BB2 := by omega
  have gw3 : w.heap.size ≤ BB3 := by omega
  go_upto_region 9 with fail
  obtain ⟨hb, hc, ha, ht', hs', hup⟩ := hu
  refine know_here (K := (kAnd (kRow BB2 _) (kAnd (kRow BB3 _) (kAnd (kNew V2.heap.size BA10 _) (kAnd (kNew V2.heap.size BA11 _) (kAnd (kRow (w.heap.size + 1 + 1 + 1 + 1 + 1 + 1 + 1) _) (kAnd (kRow (w.heap.size + 1) _) (kAnd (kRow w.heap.size _) (kUp w))))))))) ⟨⟨(RowIs.same gx _).other hne2_3 _, RowIs.same (gy.setRow _ _) _, ⟨(hb.1.other n2_0 _).other n3_0 _, hb.2⟩, ⟨(hc.1.other n2_1 _).other n3_1 _, hc.2⟩, (ha.other n2_2 _).other n3_2 _, (ht'.other n2_3 _).other n3_3 _, (hs'.other n2_4 _).other n3_4 _, belowRow (belowRow hup gw2 _) gw3 _⟩, inferInstance⟩ ?_
  intro WY hKY
  have HK := hide hKY
  clear HC gx gy hb hc ha ht' hs' hup zx zy
  have HC := ktells hKY
  (try dsimp only at HC)
  clear hKY
  go_upto_region 12 with (first | (go_at_call 17; refine know_at (by (repeat (first | exact kk (unhide HK) | apply kkbox | apply kkdrew | apply kkdrewN | apply kkalloc))) (fun hKa => ?_); (try simp only [World.size_alloc] at hKa); (try simp only [World.size_drew] at hKa); refine (awake_any _).mono ?_; rintro e w1 ⟨rfl, hb1⟩; have HK := hide (kafter hKa hb1); clear hKa hb1; have HC := ktells (unhide HK); (try dsimp only at HC)) | (go_at_call 24; refine (rightStr_sym _ _ _ _ _).mono ?_; rintro e w1 ⟨rfl, o1, rfl⟩) | (go_at_call 31; refine (refIn_any _ _ _ _).mono ?_; rintro e w2 ⟨rfl, rfl⟩))
  refine know_here (by (repeat (first | exact kk (unhide HK) | apply kkbox | apply kkdrew | apply kkdrewN | apply kkalloc))) ?_
  intro V12 hKC
  (try simp only [World.size_alloc] at hKC)
  (try simp only [World.size_drew] at hKC)
  have HKC := hide hKC
  have HCC := ktells hKC
  (try dsimp only at HCC)
  refine Gen.begin_ [] 8 (by kernel_rfl) hKC (by rfl) ⟨fun x hx => absurd hx (by simp), by kernel_rfl, fun _ _ _ _ _ => Iff.rfl⟩ (fun okC => ?_)
  clear hKC
  refine Gen.take 0 (v := ?vv94) okC (by simp only [List.getElem?_toArray, List.getElem?_cons_zero]; rfl) (by kernel_rfl) (by kernel_rfl) (by kernel_rfl) (Or.inl ⟨by rfl, ?hh94⟩) ?_
  case hh94 => (intro wg hSw; have hc := ktells hSw; (try dsimp only at hc); go_simp; try with_reducible rfl)
  (try simp only [Act.put, List.setIfInBounds_toArray, List.set_cons_zero, List.set_cons_succ])
  refine Gen.take 1 (v := ?vv95) okC (by simp only [List.getElem?_toArray, List.getElem?_cons_zero, List.getElem?_cons_succ]; rfl) (by kernel_rfl) (by kernel_rfl) (by kernel_rfl) (Or.inl ⟨by rfl, ?hh95⟩) ?_
  case hh95 => (intro wg hSw; have hc := ktells hSw; (try dsimp only at hc); go_simp; try with_reducible rfl)
  (try simp only [Act.put, List.setIfInBounds_toArray, List.set_cons_zero, List.set_cons_succ])
  refine Gen.take 2 (v := ?vv96) okC (by simp only [List.getElem?_toArray, List.getElem?_cons_zero, List.getElem?_cons_succ]; rfl) (by kernel_rfl) (by kernel_rfl) (by kernel_rfl) (Or.inl ⟨by rfl, ?hh96⟩) ?_
  case hh96 => (intro wg hSw; have hc := ktells hSw; (try dsimp only at hc); go_simp; try with_reducible rfl)
  (try simp only [Act.put, List.setIfInBounds_toArray, List.set_cons_zero, List.set_cons_succ])
  refine Gen.take 3 (v := ?vv97) okC (by simp only [List.getElem?_toArray, List.getElem?_cons_zero, List.getElem?_cons_succ]; rfl) (by kernel_rfl) (by kernel_rfl) (by kernel_rfl) (Or.inl ⟨by rfl, ?hh97⟩) ?_
  case hh97 => (intro wg hSw; have hc := ktells hSw; (try dsimp only at hc); go_simp; try with_reducible rfl)
  (try simp only [Act.put, List.setIfInBounds_toArray, List.set_cons_zero, List.set_cons_succ])
  refine Gen.take 4 (v := ?vv98) okC (by simp only [List.getElem?_toArray, List.getElem?_cons_zero, List.getElem?_cons_succ]; rfl) (by kernel_rfl) (by kernel_rfl) (by kernel_rfl) (Or.inl ⟨by rfl, ?hh98⟩) ?_
  case hh98 => (intro wg hSw; have hc := ktells hSw; (try dsimp only at hc); go_simp; try with_reducible rfl)
  (try simp only [Act.put, List.setIfInBounds_toArray, List.set_cons_zero, List.set_cons_succ])
  refine Gen.step inferInstance Gen.size 5 okC (by kernel_rfl) inferInstance (by simp) (fun wg hKg hSg => wpOp_of (by simp only [List.getElem?_toArray, List.getElem?_cons_zero, List.getElem?_cons_succ]; rfl) (by rfl) ?_)
  go_simp
  refine (mkStr_is _ _ _ _ _).mono ?_
  rintro e wh ⟨rfl, o1, o2, rfl⟩
  (try dsimp only)
  refine Gen.stay rfl hKg (by (repeat (first | exact Below.refl _ _ | refine Below.allocs ?_ _ | refine Below.drew ?_ | refine Below.drewNs ?_ _))) ?_
  clear hKg hSg
  refine Gen.take 6 (v := ?vv99) okC (by simp only [List.getElem?_toArray, List.getElem?_cons_zero, List.getElem?_cons_succ]; rfl) (by kernel_rfl) (by kernel_rfl) (by kernel_rfl) (Or.inl ⟨by rfl, ?hh99⟩) ?_
  case hh99 => (intro wg hSw; have hc := ktells hSw; (try dsimp only at hc); go_simp; try with_reducible rfl)
  (try simp only [Act.put, List.setIfInBounds_toArray, List.set_cons_zero, List.set_cons_succ])
  refine Gen.take 7 (v := ?vv100) okC (by simp only [List.getElem?_toArray, List.getElem?_cons_zero, List.getElem?_cons_succ]; rfl) (by kernel_rfl) (by kernel_rfl) (by kernel_rfl) (Or.inl ⟨by rfl, ?hh100⟩) ?_
  case hh100 => (intro wg hSw; have hc := ktells hSw; (try dsimp only at hc); go_simp; try with_reducible rfl)
  (try simp only [Act.put, List.setIfInBounds_toArray, List.set_cons_zero, List.set_cons_succ])
  refine Gen.finish inferInstance Gen.size okC (by kernel_rfl) inferInstance (by simp) ?_
  simp only [Gen.Fin]
  intro  wf hKf hSf
  have hup := hSf.1
  clear hKf hSf
  refine Gen.done (by kernel_rfl) (kafter (unhide HKC) hup) (fun WC hKC => ?_) _
  clear okC hup 
  have HK := hide hKC
  have HC := ktells hKC
  (try dsimp only at HC)
  clear hKC
  go_wp2_with (first | (go_at_call 17; refine know_at (by (repeat (first | exact kk (unhide HK) | apply kkbox | apply kkdrew | apply kkdrewN | apply kkalloc))) (fun hKa => ?_); (try simp only [World.size_alloc] at hKa); (try simp only [World.size_drew] at hKa); refine (awake_any _).mono ?_; rintro e w1 ⟨rfl, hb1⟩; have HK := hide (kafter hKa hb1); clear hKa hb1; have HC := ktells (unhide HK); (try dsimp only at HC)) | (go_at_call 24; refine (rightStr_sym _ _ _ _ _).mono ?_; rintro e w1 ⟨rfl, o1, rfl⟩) | (go_at_call 31; refine (refIn_any _ _ _ _).mono ?_; rintro e w2 ⟨rfl, rfl⟩))
  all_goals (go_ret; exact ⟨rfl, kup (unhide HK)⟩)

set_option maxRecDepth 100000 in
set_option maxHeartbeats 12800000 in
theorem heats5gk (M H S G M' H' S' G' k a1 a2 a3 a4 ea b1 b2 b3 b4 c1 c2 c3 c4 eb : Int) (HH : Hid (heatR ⟨M, H, S, G⟩ k = (⟨a1, a2, a3, a4⟩, ea))) (HE : Hid (exR ⟨M, H, S, G⟩ ⟨M', H', S', G'⟩ k = (⟨b1, b2, b3, b4⟩, ⟨c1, c2, c3, c4⟩, eb))) (hs : strOk ⟨M, H, S, G⟩ = true) (hin : inB k (-5000000000) 5000000000 = true) (ht : strOk ⟨M', H', S', G'⟩ = true) (hx : strOk ⟨M, H + k, S, G⟩ = true) (za : M = a1 ∧ a2 = H + k ∧ S = a3 ∧ G = a4) (ea' : ea = 0) (hk : decide (k < 0) = true) (zb : (b1 = 0 ∧ b2 = 0 ∧ b3 = 0 ∧ b4 = 0) ∧ c1 = 0 ∧ c2 = 0 ∧ c3 = 0 ∧ c4 = 0) (eb' : eb = 2) (w : World) :
    Calls Try.prog 11 #[.agg #[.int .i64 M, .int .i64 H, .int .i64 S, .int .i64 G], .agg #[.int .i64 M', .int .i64 H', .int .i64 S', .int .i64 G'], .int .i64 k] w fun e w' => e = .returned (.bool true) ∧ Below w.heap.size w w' := by
  have HK : Hid (kUp w w) := hide (Below.refl _ _)
  have Bs := strOk_iff.1 hs
  obtain ⟨x0, x1, x2, x3, x4, x5, x6, x7⟩ := Bs
  dsimp only at x0 x1 x2 x3 x4 x5 x6 x7
  obtain ⟨k0, k1⟩ := inB_iff.1 hin
  have w1' : IntKind.i64.wrap (H + k) = H + k := w64 (by omega) (by omega)
  have w2' : IntKind.i64.wrap (H - k) = H - k := w64 (by omega) (by omega)
  have Bt := strOk_iff.1 ht
  obtain ⟨y0, y1, y2, y3, y4, y5, y6, y7⟩ := Bt
  dsimp only at y0 y1 y2 y3 y4 y5 y6 y7
  have w3' : IntKind.i64.wrap (H' + k) = H' + k := w64 (by omega) (by omega)
  obtain ⟨rfl, rfl, rfl, rfl⟩ := za
  obtain ⟨⟨rfl, rfl, rfl, rfl⟩, rfl, rfl, rfl, rfl⟩ := zb
  subst ea' eb'
  go_enter Try.func11, Try.ntmps11
  go_upto_region 2 with (first | (go_at_call 26; refine (mkStr_is _ _ _ _ _).mono ?_; rintro e w1 ⟨rfl, o1, o2, rfl⟩) | (go_at_call 44; refine (heated_is _ _ _ _ _ _ _ (unhide HH) _).mono ?_; rintro e w2 ⟨rfl, o3, o4, o5, rfl⟩))
  refine know_here (by (repeat (first | exact kk (unhide HK) | apply kkbox | apply kkdrew | apply kkdrewN | apply kkalloc))) ?_
  intro V2 hKA
  (try simp only [World.size_alloc] at hKA)
  (try simp only [World.size_drew] at hKA)
  have HKA := hide hKA
  have HCA := ktells hKA
  (try dsimp only at HCA)
  refine Gen.begin_ [⟨10, 9, #[.int .i64 0, .int .i64 0, .int .i64 0, .int .i64 0], 42⟩, ⟨11, 10, #[.int .i64 0, .int .i64 0, .int .i64 0, .int .i64 0], 42⟩] 13 (by kernel_rfl) hKA (by rfl) ⟨fun x hx => by (simp only [List.mem_cons, List.not_mem_nil, or_false] at hx; rcases hx with rfl | rfl; all_goals exact ⟨_, by rfl, by rfl, by rfl, fun _ _ => by kernel_rfl⟩), by kernel_rfl, fun _ _ _ _ _ => Iff.rfl⟩ (fun okA => ?_)
  clear hKA
  refine Gen.take 0 (v := ?vv101) okA (by simp only [List.getElem?_toArray, List.getElem?_cons_zero]; rfl) (by kernel_rfl) (by kernel_rfl) (by kernel_rfl) (Or.inl ⟨by rfl, ?hh101⟩) ?_
  case hh101 => (intro wg hSw; have hc := ktells hSw; (try dsimp only at hc); go_simp; try with_reducible rfl)
  (try simp only [Act.put, List.setIfInBounds_toArray, List.set_cons_zero, List.set_cons_succ])
  refine Gen.take 2 (v := ?vv102) okA (by simp only [List.getElem?_toArray, List.getElem?_cons_zero, List.getElem?_cons_succ]; rfl) (by kernel_rfl) (by kernel_rfl) (by kernel_rfl) (Or.inl ⟨by rfl, ?hh102⟩) ?_
  case hh102 => (intro wg hSw; have hc := ktells hSw; (try dsimp only at hc); go_simp; try with_reducible rfl)
  (try simp only [Act.put, List.setIfInBounds_toArray, List.set_cons_zero, List.set_cons_succ])
  refine Gen.take 4 (v := ?vv103) okA (by simp only [List.getElem?_toArray, List.getElem?_cons_zero, List.getElem?_cons_succ]; rfl) (by kernel_rfl) (by kernel_rfl) (by kernel_rfl) (Or.inl ⟨by rfl, ?hh103⟩) ?_
  case hh103 => (intro wg hSw; have hc := ktells hSw; (try dsimp only at hc); go_simp; try with_reducible rfl)
  (try simp only [Act.put, List.setIfInBounds_toArray, List.set_cons_zero, List.set_cons_succ])
  refine Gen.step inferInstance Gen.size 1 okA (by kernel_rfl) inferInstance (by simp) (fun wg hKg hSg => wpOp_of (by simp only [List.getElem?_toArray, List.getElem?_cons_zero, List.getElem?_cons_succ]; rfl) (by rfl) ?_)
  go_simp
  refine (mkStr_is _ _ _ _ _).mono ?_
  rintro e wh ⟨rfl, o1, o2, rfl⟩
  (try dsimp only)
  refine Gen.stay rfl hKg (by (repeat (first | exact Below.refl _ _ | refine Below.allocs ?_ _ | refine Below.drew ?_ | refine Below.drewNs ?_ _))) ?_
  clear hKg hSg
  refine Gen.step inferInstance Gen.size 3 okA (by kernel_rfl) inferInstance (by simp) (fun wg hKg hSg => wpOp_of (by simp only [List.getElem?_toArray, List.getElem?_cons_zero, List.getElem?_cons_succ]; rfl) (by rfl) ?_)
  go_simp
  refine (mkStr_is _ _ _ _ _).mono ?_
  rintro e wh ⟨rfl, o1, o2, rfl⟩
  (try dsimp only)
  refine Gen.stay rfl hKg (by (repeat (first | exact Below.refl _ _ | refine Below.allocs ?_ _ | refine Below.drew ?_ | refine Below.drewNs ?_ _))) ?_
  clear hKg hSg
  refine Gen.step inferInstance Gen.size 5 okA (by kernel_rfl) inferInstance (by simp) (fun wg hKg hSg => wpOp_of (by simp only [List.getElem?_toArray, List.getElem?_cons_zero, List.getElem?_cons_succ]; rfl) (by rfl) ?_)
  go_simp
  refine (exchange_is _ _ _ _ _ _ _ _ _ _ _ _ _ _ _ _ _ _ (unhide HE) _).mono ?_
  rintro e wh ⟨rfl, hb1⟩
  (try dsimp only)
  refine Gen.stay rfl hKg hb1 ?_
  clear hKg hSg
  clear hb1
  refine Gen.take 6 (v := ?vv104) okA (by simp only [List.getElem?_toArray, List.getElem?_cons_zero, List.getElem?_cons_succ]; rfl) (by kernel_rfl) (by kernel_rfl) (by kernel_rfl) (Or.inl ⟨by rfl, ?hh104⟩) ?_
  case hh104 => (intro wg hSw; have hc := ktells hSw; (try dsimp only at hc); go_simp; try with_reducible rfl)
  (try simp only [Act.put, List.setIfInBounds_toArray, List.set_cons_zero, List.set_cons_succ])
  refine Gen.take 7 (v := ?vv105) okA (by simp only [List.getElem?_toArray, List.getElem?_cons_zero, List.getElem?_cons_succ]; rfl) (by kernel_rfl) (by kernel_rfl) (by kernel_rfl) (Or.inl ⟨by rfl, ?hh105⟩) ?_
  case hh105 => (intro wg hSw; have hc := ktells hSw; (try dsimp only at hc); go_simp; try with_reducible rfl)
  (try simp only [Act.put, List.setIfInBounds_toArray, List.set_cons_zero, List.set_cons_succ])
  refine Gen.take 8 (v := ?vv106) okA (by simp only [List.getElem?_toArray, List.getElem?_cons_zero, List.getElem?_cons_succ]; rfl) (by kernel_rfl) (by kernel_rfl) (by kernel_rfl) (Or.inl ⟨by rfl, ?hh106⟩) ?_
  case hh106 => (intro wg hSw; have hc := ktells hSw; (try dsimp only at hc); go_simp; try with_reducible rfl)
  (try simp only [Act.put, List.setIfInBounds_toArray, List.set_cons_zero, List.set_cons_succ])
  refine Gen.take 9 (v := ?vv107) okA (by simp only [List.getElem?_toArray, List.getElem?_cons_zero, List.getElem?_cons_succ]; rfl) (by kernel_rfl) (by kernel_rfl) (by kernel_rfl) (Or.inl ⟨by rfl, ?hh107⟩) ?_
  case hh107 => (intro wg hSw; have hc := ktells hSw; (try dsimp only at hc); go_simp; try with_reducible rfl)
  (try simp only [Act.put, List.setIfInBounds_toArray, List.set_cons_zero, List.set_cons_succ])
  refine Gen.finish inferInstance Gen.size okA (by kernel_rfl) inferInstance (by simp) ?_
  simp only [Gen.Fin, NewVar.put]
  (try simp only [Act.put, List.setIfInBounds_toArray, List.set_cons_zero, List.set_cons_succ])
  intro BA10 hnA10 BA11 hnA11 wf hKf hSf
  obtain ⟨wu, rfl, hg10, hg11, hup⟩ := graft2 (fun W => Below V2.heap.size V2 W) hKf.2.1.1 hKf.1.1 hSf.1
  have hz10 := hKf.2.1.2
  have hz11 := hKf.1.2
  have hne10_11 : BA10 ≠ BA11 := fun e => hnA11 (by simp [e])
  have hne11_10 : BA11 ≠ BA10 := fun e => hne10_11 e.symm
  clear hKf hSf
  refine Gen.one 12 (by kernel_rfl) (wpOp_of (by simp only [List.getElem?_toArray, List.getElem?_cons_zero, List.getElem?_cons_succ]; rfl) (by rfl) ?_)
  go_simp
  (try simp only [Act.put, List.setIfInBounds_toArray, List.set_cons_zero, List.set_cons_succ])
  refine ⟨⟨(belowRow (belowRow hup hz10 _) hz11 _), kafter (unhide HKA) (belowRow (belowRow hup hz10 _) hz11 _)⟩, ?_⟩
  refine Gen.one 13 (by kernel_rfl) (wpOp_of (by simp only [List.getElem?_toArray, List.getElem?_cons_zero, List.getElem?_cons_succ]; rfl) (by rfl) ?_)
  go_simp
  (try simp only [Act.put, List.setIfInBounds_toArray, List.set_cons_zero, List.set_cons_succ])
  refine ⟨⟨(belowRow (belowRow hup hz10 _) hz11 _), kafter (unhide HKA) (belowRow (belowRow hup hz10 _) hz11 _)⟩, ?_⟩
  refine Gen.one 14 (by kernel_rfl) (wpOp_of (by simp only [List.getElem?_toArray, List.getElem?_cons_zero, List.getElem?_cons_succ]; rfl) (by rfl) ?_)
  go_simp
  (try simp only [Act.put, List.setIfInBounds_toArray, List.set_cons_zero, List.set_cons_succ])
  refine ⟨⟨(belowRow (belowRow hup hz10 _) hz11 _), kafter (unhide HKA) (belowRow (belowRow hup hz10 _) hz11 _)⟩, ?_⟩
  refine Gen.done (K := (kAnd (kNew V2.heap.size BA10 _) (kAnd (kNew V2.heap.size BA11 _) _))) (by kernel_rfl) ⟨⟨(RowIs.other (RowIs.same hg10 _) hne10_11 _), hz10⟩, ⟨⟨(RowIs.same (IsRow.setRow hg11 _ _) _), hz11⟩, kafter (unhide HKA) (belowRow (belowRow hup hz10 _) hz11 _)⟩⟩ (fun WA hKA => ?_) _
  clear okA hup hg10 hz10 hg11 hz11
  have HK := hide hKA
  have HC := ktells hKA
  (try dsimp only at HC)
  clear hKA
  go_upto_region 6 with (first | (go_at_call 17; refine know_at (by (repeat (first | exact kk (unhide HK) | apply kkbox | apply kkdrew | apply kkdrewN | apply kkalloc))) (fun hKa => ?_); (try simp only [World.size_alloc] at hKa); (try simp only [World.size_drew] at hKa); refine (awake_any _).mono ?_; rintro e w1 ⟨rfl, hb1⟩; have HK := hide (kafter hKa hb1); clear hKa hb1; have HC := ktells (unhide HK); (try dsimp only at HC)) | (go_at_call 24; refine (rightStr_sym _ _ _ _ _).mono ?_; rintro e w1 ⟨rfl, o1, rfl⟩) | (go_at_call 31; refine (refIn_any _ _ _ _).mono ?_; rintro e w2 ⟨rfl, rfl⟩))
  refine know_here (by (repeat (first | exact kk (unhide HK) | apply kkbox | apply kkdrew | apply kkdrewN | apply kkalloc))) ?_
  intro V6 hKB
  (try simp only [World.size_alloc] at hKB)
  (try simp only [World.size_drew] at hKB)
  have HKB := hide hKB
  have HCB := ktells hKB
  (try dsimp only at HCB)
  refine Gen.begin_ [⟨2, 13, #[.int .i64 0, .int .i64 0, .int .i64 0, .int .i64 0], 39⟩, ⟨3, 14, #[.int .i64 0, .int .i64 0, .int .i64 0, .int .i64 0], 39⟩] 4 (by kernel_rfl) hKB (by rfl) ⟨fun x hx => by (simp only [List.mem_cons, List.not_mem_nil, or_false] at hx; rcases hx with rfl | rfl; all_goals exact ⟨_, by rfl, by rfl, by rfl, fun _ _ => by kernel_rfl⟩), by kernel_rfl, fun _ _ _ _ _ => Iff.rfl⟩ (fun okB => ?_)
  clear hKB
  refine Gen.take 0 (v := ?vv108) okB (by simp only [List.getElem?_toArray, List.getElem?_cons_zero]; rfl) (by kernel_rfl) (by kernel_rfl) (by kernel_rfl) (Or.inl ⟨by rfl, ?hh108⟩) ?_
  case hh108 => (intro wg hSw; have hc := ktells hSw; (try dsimp only at hc); go_simp; try with_reducible rfl)
  (try simp only [Act.put, List.setIfInBounds_toArray, List.set_cons_zero, List.set_cons_succ])
  refine Gen.take 1 (v := ?vv109) okB (by simp only [List.getElem?_toArray, List.getElem?_cons_zero, List.getElem?_cons_succ]; rfl) (by kernel_rfl) (by kernel_rfl) (by kernel_rfl) (Or.inl ⟨by rfl, ?hh109⟩) ?_
  case hh109 => (intro wg hSw; have hc := ktells hSw; (try dsimp only at hc); go_simp; try with_reducible rfl)
  (try simp only [Act.put, List.setIfInBounds_toArray, List.set_cons_zero, List.set_cons_succ])
  refine Gen.finish inferInstance Gen.size okB (by kernel_rfl) inferInstance (by simp) ?_
  simp only [Gen.Fin, NewVar.put]
  (try simp only [Act.put, List.setIfInBounds_toArray, List.set_cons_zero, List.set_cons_succ])
  intro BB2 hnB2 BB3 hnB3 wf hKf hSf
  obtain ⟨wu, rfl, hg2, hg3, hup⟩ := graft2 (fun W => Below V6.heap.size V6 W) hKf.2.1.1 hKf.1.1 hSf.1
  have hz2 := hKf.2.1.2
  have hz3 := hKf.1.2
  have hne2_3 : BB2 ≠ BB3 := fun e => hnB3 (by simp [e])
  have hne3_2 : BB3 ≠ BB2 := fun e => hne2_3 e.symm
  clear hKf hSf
  refine Gen.one 4 (by kernel_rfl) (wpOp_of (by simp only [List.getElem?_toArray, List.getElem?_cons_zero, List.getElem?_cons_succ]; rfl) (by rfl) ?_)
  go_simp
  (try simp only [Act.put, List.setIfInBounds_toArray, List.set_cons_zero, List.set_cons_succ])
  refine ⟨⟨(belowRow (belowRow hup hz2 _) hz3 _), kafter (unhide HKB) (belowRow (belowRow hup hz2 _) hz3 _)⟩, ?_⟩
  refine Gen.one 5 (by kernel_rfl) (wpOp_of (by simp only [List.getElem?_toArray, List.getElem?_cons_zero, List.getElem?_cons_succ]; rfl) (by rfl) ?_)
  go_simp
  (try simp only [Act.put, List.setIfInBounds_toArray, List.set_cons_zero, List.set_cons_succ])
  refine ⟨⟨(belowRow (belowRow hup hz2 _) hz3 _), kafter (unhide HKB) (belowRow (belowRow hup hz2 _) hz3 _)⟩, ?_⟩
  refine Gen.done (K := (kAnd (kNew V6.heap.size BB2 _) (kAnd (kNew V6.heap.size BB3 _) _))) (by kernel_rfl) ⟨⟨(RowIs.other (RowIs.same hg2 _) hne2_3 _), hz2⟩, ⟨⟨(RowIs.same (IsRow.setRow hg3 _ _) _), hz3⟩, kafter (unhide HKB) (belowRow (belowRow hup hz2 _) hz3 _)⟩⟩ (fun WB hKB => ?_) _
  clear okB hup hg2 hz2 hg3 hz3
  have HK := hide hKB
  have HC := ktells hKB
  (try dsimp only at HC)
  clear hKB
  obtain ⟨hx, hy, hb, hc, ha, ht', hs', hup⟩ := unhide HK
  have x2 := hx.2
  have x3 := hy.2
  obtain ⟨u, rfl, gx, gy, hu⟩ := graft2 (kAnd (kNew V2.heap.size BA10 _) (kAnd (kNew V2.heap.size BA11 _) (kAnd (kRow (w.heap.size + 1 + 1 + 1 + 1 + 1 + 1 + 1) _) (kAnd (kRow (w.heap.size + 1) _) (kAnd (kRow w.heap.size _) (kUp w)))))) hx.1 hy.1 ⟨hb, hc, ha, ht', hs', hup⟩
  clear hx hy hb hc ha ht' hs' hup HK HC
  have HC := ktells hu
  (try dsimp only at HC)
  have zx := gx.lt
  have zy := gy.lt
  have n2_0 : BA10 ≠ BB2 := by omega
  have m2_0 : BB2 ≠ BA10 := by omega
  have n3_0 : BA10 ≠ BB3 := by omega
  have m3_0 : BB3 ≠ BA10 := by omega
  have n2_1 : BA11 ≠ BB2 := by omega
  have m2_1 : BB2 ≠ BA11 := by omega
  have n3_1 : BA11 ≠ BB3 := by omega
  have m3_1 : BB3 ≠ BA11 := by omega
  have n2_2 : w.heap.size + 1 + 1 + 1 + 1 + 1 + 1 + 1 ≠ BB2 := by omega
  have m2_2 : BB2 ≠ w.heap.size + 1 + 1 + 1 + 1 + 1 + 1 + 1 := by omega
  have n3_2 : w.heap.size + 1 + 1 + 1 + 1 + 1 + 1 + 1 ≠ BB3 := by omega
  have m3_2 : BB3 ≠ w.heap.size + 1 + 1 + 1 + 1 + 1 + 1 + 1 := by omega
  have n2_3 : w.heap.size + 1 ≠ BB2 := by omega
  have m2_3 : BB2 ≠ w.heap.size + 1 := by omega
  have n3_3 : w.heap.size + 1 ≠ BB3 := by omega
  have m3_3 : BB3 ≠ w.heap.size + 1 := by omega
  have n2_4 : w.heap.size ≠ BB2 := by omega
  have m2_4 : BB2 ≠ w.heap.size := by omega
  have n3_4 : w.heap.size ≠ BB3 := by omega
  have m3_4 : BB3 ≠ w.heap.size := by omega
  have gw2 : w.heap.size ≤ BB2 := by omega
  have gw3 : w.heap.size ≤ BB3 := by omega
  go_upto_region 9 with fail
  obtain ⟨hb, hc, ha, ht', hs', hup⟩ := hu
  refine know_here (K := (kAnd (kRow BB2 _) (kAnd (kRow BB3 _) (kAnd (kNew V2.heap.size BA10 _) (kAnd (kNew V2.heap.size BA11 _) (kAnd (kRow (w.heap.size + 1 + 1 + 1 + 1 + 1 + 1 + 1) _) (kAnd (kRow (w.heap.size + 1) _) (kAnd (kRow w.heap.size _) (kUp w))))))))) ⟨⟨(RowIs.same gx _).other hne2_3 _, RowIs.same (gy.setRow _ _) _, ⟨(hb.1.other n2_0 _).other n3_0 _, hb.2⟩, ⟨(hc.1.other n2_1 _).other n3_1 _, hc.2⟩, (ha.other n2_2 _).other n3_2 _, (ht'.other n2_3 _).other n3_3 _, (hs'.other n2_4 _).other n3_4 _, belowRow (belowRow hup gw2 _) gw3 _⟩, inferInstance⟩ ?_
  intro WY hKY
  have HK := hide hKY
  clear HC gx gy hb hc ha ht' hs' hup zx zy
  have HC := ktells hKY
  (try dsimp only at HC)
  clear hKY
  go_upto_region 12 with (first | (go_at_call 17; refine know_at (by (repeat (first | exact kk (unhide HK) | apply kkbox | apply kkdrew | apply kkdrewN | apply kkalloc))) (fun hKa => ?_); (try simp only [World.size_alloc] at hKa); (try simp only [World.size_drew] at hKa); refine (awake_any _).mono ?_; rintro e w1 ⟨rfl, hb1⟩; have HK := hide (kafter hKa hb1); clear hKa hb1; have HC := ktells (unhide HK); (try dsimp only at HC)) | (go_at_call 24; refine (rightStr_sym _ _ _ _ _).mono ?_; rintro e w1 ⟨rfl, o1, rfl⟩) | (go_at_call 31; refine (refIn_any _ _ _ _).mono ?_; rintro e w2 ⟨rfl, rfl⟩))
  refine know_here (by (repeat (first | exact kk (unhide HK) | apply kkbox | apply kkdrew | apply kkdrewN | apply kkalloc))) ?_
  intro V12 hKC
  (try simp only [World.size_alloc] at hKC)
  (try simp only [World.size_drew] at hKC)
  have HKC := hide hKC
  have HCC := ktells hKC
  (try dsimp only at HCC)
  refine Gen.begin_ [] 8 (by kernel_rfl) hKC (by rfl) ⟨fun x hx => absurd hx (by simp), by kernel_rfl, fun _ _ _ _ _ => Iff.rfl⟩ (fun okC => ?_)
  clear hKC
  refine Gen.take 0 (v := ?vv110) okC (by simp only [List.getElem?_toArray, List.getElem?_cons_zero]; rfl) (by kernel_rfl) (by kernel_rfl) (by kernel_rfl) (Or.inl ⟨by rfl, ?hh110⟩) ?_
  case hh110 => (intro wg hSw; have hc := ktells hSw; (try dsimp only at hc); go_simp; try with_reducible rfl)
  (try simp only [Act.put, List.setIfInBounds_toArray, List.set_cons_zero, List.set_cons_succ])
  refine Gen.take 1 (v := ?vv111) okC (by simp only [List.getElem?_toArray, List.getElem?_cons_zero, List.getElem?_cons_succ]; rfl) (by kernel_rfl) (by kernel_rfl) (by kernel_rfl) (Or.inl ⟨by rfl, ?hh111⟩) ?_
  case hh111 => (intro wg hSw; have hc := ktells hSw; (try dsimp only at hc); go_simp; try with_reducible rfl)
  (try simp only [Act.put, List.setIfInBounds_toArray, List.set_cons_zero, List.set_cons_succ])
  refine Gen.take 2 (v := ?vv112) okC (by simp only [List.getElem?_toArray, List.getElem?_cons_zero, List.getElem?_cons_succ]; rfl) (by kernel_rfl) (by kernel_rfl) (by kernel_rfl) (Or.inl ⟨by rfl, ?hh112⟩) ?_
  case hh112 => (intro wg hSw; have hc := ktells hSw; (try dsimp only at hc); go_simp; try with_reducible rfl)
  (try simp only [Act.put, List.setIfInBounds_toArray, List.set_cons_zero, List.set_cons_succ])
  refine Gen.take 3 (v := ?vv113) okC (by simp only [List.getElem?_toArray, List.getElem?_cons_zero, List.getElem?_cons_succ]; rfl) (by kernel_rfl) (by kernel_rfl) (by kernel_rfl) (Or.inl ⟨by rfl, ?hh113⟩) ?_
  case hh113 => (intro wg hSw; have hc := ktells hSw; (try dsimp only at hc); go_simp; try with_reducible rfl)
  (try simp only [Act.put, List.setIfInBounds_toArray, List.set_cons_zero, List.set_cons_succ])
  refine Gen.take 4 (v := ?vv114) okC (by simp only [List.getElem?_toArray, List.getElem?_cons_zero, List.getElem?_cons_succ]; rfl) (by kernel_rfl) (by kernel_rfl) (by kernel_rfl) (Or.inl ⟨by rfl, ?hh114⟩) ?_
  case hh114 => (intro wg hSw; have hc := ktells hSw; (try dsimp only at hc); go_simp; try with_reducible rfl)
  (try simp only [Act.put, List.setIfInBounds_toArray, List.set_cons_zero, List.set_cons_succ])
  refine Gen.step inferInstance Gen.size 5 okC (by kernel_rfl) inferInstance (by simp) (fun wg hKg hSg => wpOp_of (by simp only [List.getElem?_toArray, List.getElem?_cons_zero, List.getElem?_cons_succ]; rfl) (by rfl) ?_)
  go_simp
  refine (mkStr_is _ _ _ _ _).mono ?_
  rintro e wh ⟨rfl, o1, o2, rfl⟩
  (try dsimp only)
  refine Gen.stay rfl hKg (by (repeat (first | exact Below.refl _ _ | refine Below.allocs ?_ _ | refine Below.drew ?_ | refine Below.drewNs ?_ _))) ?_
  clear hKg hSg
  refine Gen.take 6 (v := ?vv115) okC (by simp only [List.getElem?_toArray, List.getElem?_cons_zero, List.getElem?_cons_succ]; rfl) (by kernel_rfl) (by kernel_rfl) (by kernel_rfl) (Or.inl ⟨by rfl, ?hh115⟩) ?_
  case hh115 => (intro wg hSw; have hc := ktells hSw; (try dsimp only at hc); go_simp; try with_reducible rfl)
  (try simp only [Act.put, List.setIfInBounds_toArray, List.set_cons_zero, List.set_cons_succ])
  refine Gen.take 7 (v := ?vv116) okC (by simp only [List.getElem?_toArray, List.getElem?_cons_zero, List.getElem?_cons_succ]; rfl) (by kernel_rfl) (by kernel_rfl) (by kernel_rfl) (Or.inl ⟨by rfl, ?hh116⟩) ?_
  case hh116 => (intro wg hSw; have hc := ktells hSw; (try dsimp only at hc); go_simp; try with_reducible rfl)
  (try simp only [Act.put, List.setIfInBounds_toArray, List.set_cons_zero, List.set_cons_succ])
  refine Gen.finish inferInstance Gen.size okC (by kernel_rfl) inferInstance (by simp) ?_
  simp only [Gen.Fin]
  intro  wf hKf hSf
  have hup := hSf.1
  clear hKf hSf
  refine Gen.done (by kernel_rfl) (kafter (unhide HKC) hup) (fun WC hKC => ?_) _
  clear okC hup 
  have HK := hide hKC
  have HC := ktells hKC
  (try dsimp only at HC)
  clear hKC
  go_upto_region 17 with (first | (go_at_call 17; refine know_at (by (repeat (first | exact kk (unhide HK) | apply kkbox | apply kkdrew | apply kkdrewN | apply kkalloc))) (fun hKa => ?_); (try simp only [World.size_alloc] at hKa); (try simp only [World.size_drew] at hKa); refine (awake_any _).mono ?_; rintro e w1 ⟨rfl, hb1⟩; have HK := hide (kafter hKa hb1); clear hKa hb1; have HC := ktells (unhide HK); (try dsimp only at HC)) | (go_at_call 24; refine (rightStr_sym _ _ _ _ _).mono ?_; rintro e w1 ⟨rfl, o1, rfl⟩) | (go_at_call 31; refine (refIn_any _ _ _ _).mono ?_; rintro e w2 ⟨rfl, rfl⟩))
  refine know_here (by (repeat (first | exact kk (unhide HK) | apply kkbox | apply kkdrew | apply kkdrewN | apply kkalloc))) ?_
  intro W16 hK16
  have HK := hide hK16
  clear HC
  have HC := ktells hK16
  (try dsimp only at HC)
  clear hK16
  obtain ⟨hx, hy, hb, hc, ha, ht', hs', hup⟩ := unhide HK
  obtain ⟨u, rfl, gx, gy, hu⟩ := graft2 (kAnd (kNew V2.heap.size BA10 _) (kAnd (kNew V2.heap.size BA11 _) (kAnd (kRow (w.heap.size + 1 + 1 + 1 + 1 + 1 + 1 + 1) _) (kAnd (kRow (w.heap.size + 1) _) (kAnd (kRow w.heap.size _) (kUp w)))))) hx hy ⟨hb, hc, ha, ht', hs', hup⟩
  clear hx hy hb hc ha ht' hs' hup HK HC
  have HC := ktells hu
  (try dsimp only at HC)
  have zx := gx.lt
  have zy := gy.lt
  go_wp2_with fail
  go_region
  go_upto_region 20 with fail
  obtain ⟨hb, hc, ha, ht', hs', hup⟩ := hu
  refine know_here (K := (kAnd (kRow BB2 _) (kAnd (kRow BB3 _) (kAnd (kNew V2.heap.size BA10 _) (kAnd (kNew V2.heap.size BA11 _) (kAnd (kRow (w.heap.size + 1 + 1 + 1 + 1 + 1 + 1 + 1) _) (kAnd (kRow (w.heap.size + 1) _) (kAnd (kRow w.heap.size _) (kUp w))))))))) ⟨Keeps.keep ((Below.refl _ _).drew) (show (kAnd (kRow BB2 _) (kAnd (kRow BB3 _) (kAnd (kNew V2.heap.size BA10 _) (kAnd (kNew V2.heap.size BA11 _) (kAnd (kRow (w.heap.size + 1 + 1 + 1 + 1 + 1 + 1 + 1) _) (kAnd (kRow (w.heap.size + 1) _) (kAnd (kRow w.heap.size _) (kUp w)))))))) _ from ⟨(RowIs.same gx _).other hne2_3 _, RowIs.same (gy.setRow _ _) _, ⟨(hb.1.other n2_0 _).other n3_0 _, hb.2⟩, ⟨(hc.1.other n2_1 _).other n3_1 _, hc.2⟩, (ha.other n2_2 _).other n3_2 _, (ht'.other n2_3 _).other n3_3 _, (hs'.other n2_4 _).other n3_4 _, belowRow (belowRow hup gw2 _) gw3 _⟩), inferInstance⟩ ?_
  intro WZ hKZ
  have HK := hide hKZ
  clear HC gx gy hb hc ha ht' hs' hup zx zy
  have HC := ktells hKZ
  (try dsimp only at HC)
  clear hKZ
  go_wp2_with (first | (go_at_call 17; refine know_at (by (repeat (first | exact kk (unhide HK) | apply kkbox | apply kkdrew | apply kkdrewN | apply kkalloc))) (fun hKa => ?_); (try simp only [World.size_alloc] at hKa); (try simp only [World.size_drew] at hKa); refine (awake_any _).mono ?_; rintro e w1 ⟨rfl, hb1⟩; have HK := hide (kafter hKa hb1); clear hKa hb1; have HC := ktells (unhide HK); (try dsimp only at HC)) | (go_at_call 24; refine (rightStr_sym _ _ _ _ _).mono ?_; rintro e w1 ⟨rfl, o1, rfl⟩) | (go_at_call 31; refine (refIn_any _ _ _ _).mono ?_; rintro e w2 ⟨rfl, rfl⟩))
  all_goals (go_ret; exact ⟨rfl, kup (unhide HK)⟩)

set_option maxRecDepth 100000 in
set_option maxHeartbeats 12800000 in
theorem heats5gx (M H S G M' H' S' G' k a1 a2 a3 a4 ea b1 b2 b3 b4 c1 c2 c3 c4 eb : Int) (HH : Hid (heatR ⟨M, H, S, G⟩ k = (⟨a1, a2, a3, a4⟩, ea))) (HE : Hid (exR ⟨M, H, S, G⟩ ⟨M', H', S', G'⟩ k = (⟨b1, b2, b3, b4⟩, ⟨c1, c2, c3, c4⟩, eb))) (hs : strOk ⟨M, H, S, G⟩ = true) (hin : inB k (-5000000000) 5000000000 = true) (ht : strOk ⟨M', H', S', G'⟩ = true) (hx : strOk ⟨M, H + k, S, G⟩ = true) (za : M = a1 ∧ a2 = H + k ∧ S = a3 ∧ G = a4) (ea' : ea = 0) (hk : decide (k < 0) = false) (hx' : strOk ⟨M, H - k, S, G⟩ = false) (zb : (b1 = 0 ∧ b2 = 0 ∧ b3 = 0 ∧ b4 = 0) ∧ c1 = 0 ∧ c2 = 0 ∧ c3 = 0 ∧ c4 = 0) (eb' : eb = 2) (w : World) :
    Calls Try.prog 11 #[.agg #[.int .i64 M, .int .i64 H, .int .i64 S, .int .i64 G], .agg #[.int .i64 M', .int .i64 H', .int .i64 S', .int .i64 G'], .int .i64 k] w fun e w' => e = .returned (.bool true) ∧ Below w.heap.size w w' := by
  have HK : Hid (kUp w w) := hide (Below.refl _ _)
  have Bs := strOk_iff.1 hs
  obtain ⟨x0, x1, x2, x3, x4, x5, x6, x7⟩ := Bs
  dsimp only at x0 x1 x2 x3 x4 x5 x6 x7
  obtain ⟨k0, k1⟩ := inB_iff.1 hin
  have w1' : IntKind.i64.wrap (H + k) = H + k := w64 (by omega) (by omega)
  have w2' : IntKind.i64.wrap (H - k) = H - k := w64 (by omega) (by omega)
  have Bt := strOk_iff.1 ht
  obtain ⟨y0, y1, y2, y3, y4, y5, y6, y7⟩ := Bt
  dsimp only at y0 y1 y2 y3 y4 y5 y6 y7
  have w3' : IntKind.i64.wrap (H' + k) = H' + k := w64 (by omega) (by omega)
  obtain ⟨rfl, rfl, rfl, rfl⟩ := za
  obtain ⟨⟨rfl, rfl, rfl, rfl⟩, rfl, rfl, rfl, rfl⟩ := zb
  subst ea' eb'
  go_enter Try.func11, Try.ntmps11
  go_upto_region 2 with (first | (go_at_call 26; refine (mkStr_is _ _ _ _ _).mono ?_; rintro e w1 ⟨rfl, o1, o2, rfl⟩) | (go_at_call 44; refine (heated_is _ _ _ _ _ _ _ (unhide HH) _).mono ?_; rintro e w2 ⟨rfl, o3, o4, o5, rfl⟩))
  refine know_here (by (repeat (first | exact kk (unhide HK) | apply kkbox | apply kkdrew | apply kkdrewN | apply kkalloc))) ?_
  intro V2 hKA
  (try simp only [World.size_alloc] at hKA)
  (try simp only [World.size_drew] at hKA)
  have HKA := hide hKA
  have HCA := ktells hKA
  (try dsimp only at HCA)
  refine Gen.begin_ [⟨10, 9, #[.int .i64 0, .int .i64 0, .int .i64 0, .int .i64 0], 42⟩, ⟨11, 10, #[.int .i64 0, .int .i64 0, .int .i64 0, .int .i64 0], 42⟩] 13 (by kernel_rfl) hKA (by rfl) ⟨fun x hx => by (simp only [List.mem_cons, List.not_mem_nil, or_false] at hx; rcases hx with rfl | rfl; all_goals exact ⟨_, by rfl, by rfl, by rfl, fun _ _ => by kernel_rfl⟩), by kernel_rfl, fun _ _ _ _ _ => Iff.rfl⟩ (fun okA => ?_)
  clear hKA
  refine Gen.take 0 (v := ?vv117) okA (by simp only [List.getElem?_toArray, List.getElem?_cons_zero]; rfl) (by kernel_rfl) (by kernel_rfl) (by kernel_rfl) (Or.inl ⟨by rfl, ?hh117⟩) ?_
  case hh117 => (intro wg hSw; have hc := ktells hSw; (try dsimp only at hc); go_simp; try with_reducible rfl)
  (try simp only [Act.put, List.setIfInBounds_toArray, List.set_cons_zero, List.set_cons_succ])
  refine Gen.take 2 (v := ?vv118) okA (by simp only [List.getElem?_toArray, List.getElem?_cons_zero, List.getElem?_cons_succ]; rfl) (by kernel_rfl) (by kernel_rfl) (by kernel_rfl) (Or.inl ⟨by rfl, ?hh118⟩) ?_
  case hh118 => (intro wg hSw; have hc := ktells hSw; (try dsimp only at hc); go_simp; try with_reducible rfl)
  (try simp only [Act.put, List.setIfInBounds_toArray, List.set_cons_zero, List.set_cons_succ])
  refine Gen.take 4 (v := ?vv119) okA (by simp only [List.getElem?_toArray, List.getElem?_cons_zero, List.getElem?_cons_succ]; rfl) (by kernel_rfl) (by kernel_rfl) (by kernel_rfl) (Or.inl ⟨by rfl, ?hh119⟩) ?_
  case hh119 => (intro wg hSw; have hc := ktells hSw; (try dsimp only at hc); go_simp; try with_reducible rfl)
  (try simp only [Act.put, List.setIfInBounds_toArray, List.set_cons_zero, List.set_cons_succ])
  refine Gen.step inferInstance Gen.size 1 okA (by kernel_rfl) inferInstance (by simp) (fun wg hKg hSg => wpOp_of (by simp only [List.getElem?_toArray, List.getElem?_cons_zero, List.getElem?_cons_succ]; rfl) (by rfl) ?_)
  go_simp
  refine (mkStr_is _ _ _ _ _).mono ?_
  rintro e wh ⟨rfl, o1, o2, rfl⟩
  (try dsimp only)
  refine Gen.stay rfl hKg (by (repeat (first | exact Below.refl _ _ | refine Below.allocs ?_ _ | refine Below.drew ?_ | refine Below.drewNs ?_ _))) ?_
  clear hKg hSg
  refine Gen.step inferInstance Gen.size 3 okA (by kernel_rfl) inferInstance (by simp) (fun wg hKg hSg => wpOp_of (by simp only [List.getElem?_toArray, List.getElem?_cons_zero, List.getElem?_cons_succ]; rfl) (by rfl) ?_)
  go_simp
  refine (mkStr_is _ _ _ _ _).mono ?_
  rintro e wh ⟨rfl, o1, o2, rfl⟩
  (try dsimp only)
  refine Gen.stay rfl hKg (by (repeat (first | exact Below.refl _ _ | refine Below.allocs ?_ _ | refine Below.drew ?_ | refine Below.drewNs ?_ _))) ?_
  clear hKg hSg
  refine Gen.step inferInstance Gen.size 5 okA (by kernel_rfl) inferInstance (by simp) (fun wg hKg hSg => wpOp_of (by simp only [List.getElem?_toArray, List.getElem?_cons_zero, List.getElem?_cons_succ]; rfl) (by rfl) ?_)
  go_simp
  refine (exchange_is _ _ _ _ _ _ _ _ _ _ _ _ _ _ _ _ _ _ (unhide HE) _).mono ?_
  rintro e wh ⟨rfl, hb1⟩
  (try dsimp only)
  refine Gen.stay rfl hKg hb1 ?_
  clear hKg hSg
  clear hb1
  refine Gen.take 6 (v := ?vv120) okA (by simp only [List.getElem?_toArray, List.getElem?_cons_zero, List.getElem?_cons_succ]; rfl) (by kernel_rfl) (by kernel_rfl) (by kernel_rfl) (Or.inl ⟨by rfl, ?hh120⟩) ?_
  case hh120 => (intro wg hSw; have hc := ktells hSw; (try dsimp only at hc); go_simp; try with_reducible rfl)
  (try simp only [Act.put, List.setIfInBounds_toArray, List.set_cons_zero, List.set_cons_succ])
  refine Gen.take 7 (v := ?vv121) okA (by simp only [List.getElem?_toArray, List.getElem?_cons_zero, List.getElem?_cons_succ]; rfl) (by kernel_rfl) (by kernel_rfl) (by kernel_rfl) (Or.inl ⟨by rfl, ?hh121⟩) ?_
  case hh121 => (intro wg hSw; have hc := ktells hSw; (try dsimp only at hc); go_simp; try with_reducible rfl)
  (try simp only [Act.put, List.setIfInBounds_toArray, List.set_cons_zero, List.set_cons_succ])
  refine Gen.take 8 (v := ?vv122) okA (by simp only [List.getElem?_toArray, List.getElem?_cons_zero, List.getElem?_cons_succ]; rfl) (by kernel_rfl) (by kernel_rfl) (by kernel_rfl) (Or.inl ⟨by rfl, ?hh122⟩) ?_
  case hh122 => (intro wg hSw; have hc := ktells hSw; (try dsimp only at hc); go_simp; try with_reducible rfl)
  (try simp only [Act.put, List.setIfInBounds_toArray, List.set_cons_zero, List.set_cons_succ])
  refine Gen.take 9 (v := ?vv123) okA (by simp only [List.getElem?_toArray, List.getElem?_cons_zero, List.getElem?_cons_succ]; rfl) (by kernel_rfl) (by kernel_rfl) (by kernel_rfl) (Or.inl ⟨by rfl, ?hh123⟩) ?_
  case hh123 => (intro wg hSw; have hc := ktells hSw; (try dsimp only at hc); go_simp; try with_reducible rfl)
  (try simp only [Act.put, List.setIfInBounds_toArray, List.set_cons_zero, List.set_cons_succ])
  refine Gen.finish inferInstance Gen.size okA (by kernel_rfl) inferInstance (by simp) ?_
  simp only [Gen.Fin, NewVar.put]
  (try simp only [Act.put, List.setIfInBounds_toArray, List.set_cons_zero, List.set_cons_succ])
  intro BA10 hnA10 BA11 hnA11 wf hKf hSf
  obtain ⟨wu, rfl, hg10, hg11, hup⟩ := graft2 (fun W => Below V2.heap.size V2 W) hKf.2.1.1 hKf.1.1 hSf.1
  have hz10 := hKf.2.1.2
  have hz11 := hKf.1.2
  have hne10_11 : BA10 ≠ BA11 := fun e => hnA11 (by simp [e])
  have hne11_10 : BA11 ≠ BA10 := fun e => hne10_11 e.symm
  clear hKf hSf
  refine Gen.one 12 (by kernel_rfl) (wpOp_of (by simp only [List.getElem?_toArray, List.getElem?_cons_zero, List.getElem?_cons_succ]; rfl) (by rfl) ?_)
  go_simp
  (try simp only [Act.put, List.setIfInBounds_toArray, List.set_cons_zero, List.set_cons_succ])
  refine ⟨⟨(belowRow (belowRow hup hz10 _) hz11 _), kafter (unhide HKA) (belowRow (belowRow hup hz10 _) hz11 _)⟩, ?_⟩
  refine Gen.one 13 (by kernel_rfl) (wpOp_of (by simp only [List.getElem?_toArray, List.getElem?_cons_zero, List.getElem?_cons_succ]; rfl) (by rfl) ?_)
  go_simp
  (try simp only [Act.put, List.setIfInBounds_toArray, List.set_cons_zero, List.set_cons_succ])
  refine ⟨⟨(belowRow (belowRow hup hz10 _) hz11 _), kafter (unhide HKA) (belowRow (belowRow hup hz10 _) hz11 _)⟩, ?_⟩
  refine Gen.one 14 (by kernel_rfl) (wpOp_of (by simp only [List.getElem?_toArray, List.getElem?_cons_zero, List.getElem?_cons_succ]; rfl) (by rfl) ?_)
  go_simp
  (try simp only [Act.put, List.setIfInBounds_toArray, List.set_cons_zero, List.set_cons_succ])
  refine ⟨⟨(belowRow (belowRow hup hz10 _) hz11 _), kafter (unhide HKA) (belowRow (belowRow hup hz10 _) hz11 _)⟩, ?_⟩
  refine Gen.done (K := (kAnd (kNew V2.heap.size BA10 _) (kAnd (kNew V2.heap.size BA11 _) _))) (by kernel_rfl) ⟨⟨(RowIs.other (RowIs.same hg10 _) hne10_11 _), hz10⟩, ⟨⟨(RowIs.same (IsRow.setRow hg11 _ _) _), hz11⟩, kafter (unhide HKA) (belowRow (belowRow hup hz10 _) hz11 _)⟩⟩ (fun WA hKA => ?_) _
  clear okA hup hg10 hz10 hg11 hz11
  have HK := hide hKA
  have HC := ktells hKA
  (try dsimp only at HC)
  clear hKA
  go_upto_region 6 with (first | (go_at_call 17; refine know_at (by (repeat (first | exact kk (unhide HK) | apply kkbox | apply kkdrew | apply kkdrewN | apply kkalloc))) (fun hKa => ?_); (try simp only [World.size_alloc] at hKa); (try simp only [World.size_drew] at hKa); refine (awake_any _).mono ?_; rintro e w1 ⟨rfl, hb1⟩; have HK := hide (kafter hKa hb1); clear hKa hb1; have HC := ktells (unhide HK); (try dsimp only at HC)) | (go_at_call 24; refine (rightStr_sym _ _ _ _ _).mono ?_; rintro e w1 ⟨rfl, o1, rfl⟩) | (go_at_call 31; refine (refIn_any _ _ _ _).mono ?_; rintro e w2 ⟨rfl, rfl⟩))
  refine know_here (by (repeat (first | exact kk (unhide HK) | apply kkbox | apply kkdrew | apply kkdrewN | apply kkalloc))) ?_
  intro V6 hKB
  (try simp only [World.size_alloc] at hKB)
  (try simp only [World.size_drew] at hKB)
  have HKB := hide hKB
  have HCB := ktells hKB
  (try dsimp only at HCB)
  refine Gen.begin_ [⟨2, 13, #[.int .i64 0, .int .i64 0, .int .i64 0, .int .i64 0], 39⟩, ⟨3, 14, #[.int .i64 0, .int .i64 0, .int .i64 0, .int .i64 0], 39⟩] 4 (by kernel_rfl) hKB (by rfl) ⟨fun x hx => by (simp only [List.mem_cons, List.not_mem_nil, or_false] at hx; rcases hx with rfl | rfl; all_goals exact ⟨_, by rfl, by rfl, by rfl, fun _ _ => by kernel_rfl⟩), by kernel_rfl, fun _ _ _ _ _ => Iff.rfl⟩ (fun okB => ?_)
  clear hKB
  refine Gen.take 0 (v := ?vv124) okB (by simp only [List.getElem?_toArray, List.getElem?_cons_zero]; rfl) (by kernel_rfl) (by kernel_rfl) (by kernel_rfl) (Or.inl ⟨by rfl, ?hh124⟩) ?_
  case hh124 => (intro wg hSw; have hc := ktells hSw; (try dsimp only at hc); go_simp; try with_reducible rfl)
  (try simp only [Act.put, List.setIfInBounds_toArray, List.set_cons_zero, List.set_cons_succ])
  refine Gen.take 1 (v := ?vv125) okB (by simp only [List.getElem?_toArray, List.getElem?_cons_zero, List.getElem?_cons_succ]; rfl) (by kernel_rfl) (by kernel_rfl) (by kernel_rfl) (Or.inl ⟨by rfl, ?hh125⟩) ?_
  case hh125 => (intro wg hSw; have hc := ktells hSw; (try dsimp only at hc); go_simp; try with_reducible rfl)
  (try simp only [Act.put, List.setIfInBounds_toArray, List.set_cons_zero, List.set_cons_succ])
  refine Gen.finish inferInstance Gen.size okB (by kernel_rfl) inferInstance (by simp) ?_
  simp only [Gen.Fin, NewVar.put]
  (try simp only [Act.put, List.setIfInBounds_toArray, List.set_cons_zero, List.set_cons_succ])
  intro BB2 hnB2 BB3 hnB3 wf hKf hSf
  obtain ⟨wu, rfl, hg2, hg3, hup⟩ := graft2 (fun W => Below V6.heap.size V6 W) hKf.2.1.1 hKf.1.1 hSf.1
  have hz2 := hKf.2.1.2
  have hz3 := hKf.1.2
  have hne2_3 : BB2 ≠ BB3 := fun e => hnB3 (by simp [e])
  have hne3_2 : BB3 ≠ BB2 := fun e => hne2_3 e.symm
  clear hKf hSf
  refine Gen.one 4 (by kernel_rfl) (wpOp_of (by simp only [List.getElem?_toArray, List.getElem?_cons_zero, List.getElem?_cons_succ]; rfl) (by rfl) ?_)
  go_simp
  (try simp only [Act.put, List.setIfInBounds_toArray, List.set_cons_zero, List.set_cons_succ])
  refine ⟨⟨(belowRow (belowRow hup hz2 _) hz3 _), kafter (unhide HKB) (belowRow (belowRow hup hz2 _) hz3 _)⟩, ?_⟩
  refine Gen.one 5 (by kernel_rfl) (wpOp_of (by simp only [List.getElem?_toArray, List.getElem?_cons_zero, List.getElem?_cons_succ]; rfl) (by rfl) ?_)
  go_simp
  (try simp only [Act.put, List.setIfInBounds_toArray, List.set_cons_zero, List.set_cons_succ])
  refine ⟨⟨(belowRow (belowRow hup hz2 _) hz3 _), kafter (unhide HKB) (belowRow (belowRow hup hz2 _) hz3 _)⟩, ?_⟩
  refine Gen.done (K := (kAnd (kNew V6.heap.size BB2 _) (kAnd (kNew V6.heap.size BB3 _) _))) (by kernel_rfl) ⟨⟨(RowIs.other (RowIs.same hg2 _) hne2_3 _), hz2⟩, ⟨⟨(RowIs.same (IsRow.setRow hg3 _ _) _), hz3⟩, kafter (unhide HKB) (belowRow (belowRow hup hz2 _) hz3 _)⟩⟩ (fun WB hKB => ?_) _
  clear okB hup hg2 hz2 hg3 hz3
  have HK := hide hKB
  have HC := ktells hKB
  (try dsimp only at HC)
  clear hKB
  obtain ⟨hx, hy, hb, hc, ha, ht', hs', hup⟩ := unhide HK
  have x2 := hx.2
  have x3 := hy.2
  obtain ⟨u, rfl, gx, gy, hu⟩ := graft2 (kAnd (kNew V2.heap.size BA10 _) (kAnd (kNew V2.heap.size BA11 _) (kAnd (kRow (w.heap.size + 1 + 1 + 1 + 1 + 1 + 1 + 1) _) (kAnd (kRow (w.heap.size + 1) _) (kAnd (kRow w.heap.size _) (kUp w)))))) hx.1 hy.1 ⟨hb, hc, ha, ht', hs', hup⟩
  clear hx hy hb hc ha ht' hs' hup HK HC
  have HC := ktells hu
  (try dsimp only at HC)
  have zx := gx.lt
  have zy := gy.lt
  have n2_0 : BA10 ≠ BB2 := by omega
  have m2_0 : BB2 ≠ BA10 := by omega
  have n3_0 : BA10 ≠ BB3 := by omega
  have m3_0 : BB3 ≠ BA10 := by omega
  have n2_1 : BA11 ≠ BB2 := by omega
  have m2_1 : BB2 ≠ BA11 := by omega
  have n3_1 : BA11 ≠ BB3 := by omega
  have m3_1 : BB3 ≠ BA11 := by omega
  have n2_2 : w.heap.size + 1 + 1 + 1 + 1 + 1 + 1 + 1 ≠ BB2 := by omega
  have m2_2 : BB2 ≠ w.heap.size + 1 + 1 + 1 + 1 + 1 + 1 + 1 := by omega
  have n3_2 : w.heap.size + 1 + 1 + 1 + 1 + 1 + 1 + 1 ≠ BB3 := by omega
  have m3_2 : BB3 ≠ w.heap.size + 1 + 1 + 1 + 1 + 1 + 1 + 1 := by omega
  have n2_3 : w.heap.size + 1 ≠ BB2 := by omega
  have m2_3 : BB2 ≠ w.heap.size + 1 := by omega
  have n3_3 : w.heap.size + 1 ≠ BB3 := by omega
  have m3_3 : BB3 ≠ w.heap.size + 1 := by omega
  have n2_4 : w.heap.size ≠ BB2 := by omega
  have m2_4 : BB2 ≠ w.heap.size := by omega
  have n3_4 : w.heap.size ≠ BB3 := by omega
  have m3_4 : BB3 ≠ w.heap.size := by omega
  have gw2 : w.heap.size ≤ BB2 := by omega
  have gw3 : w.heap.size ≤ BB3 := by omega
  go_upto_region 9 with fail
  obtain ⟨hb, hc, ha, ht', hs', hup⟩ := hu
  refine know_here (K := (kAnd (kRow BB2 _) (kAnd (kRow BB3 _) (kAnd (kNew V2.heap.size BA10 _) (kAnd (kNew V2.heap.size BA11 _) (kAnd (kRow (w.heap.size + 1 + 1 + 1 + 1 + 1 + 1 + 1) _) (kAnd (kRow (w.heap.size + 1) _) (kAnd (kRow w.heap.size _) (kUp w))))))))) ⟨⟨(RowIs.same gx _).other hne2_3 _, RowIs.same (gy.setRow _ _) _, ⟨(hb.1.other n2_0 _).other n3_0 _, hb.2⟩, ⟨(hc.1.other n2_1 _).other n3_1 _, hc.2⟩, (ha.other n2_2 _).other n3_2 _, (ht'.other n2_3 _).other n3_3 _, (hs'.other n2_4 _).other n3_4 _, belowRow (belowRow hup gw2 _) gw3 _⟩, inferInstance⟩ ?_
  intro WY hKY
  have HK := hide hKY
  clear HC gx gy hb hc ha ht' hs' hup zx zy
  have HC := ktells hKY
  (try dsimp only at HC)
  clear hKY
  go_upto_region 12 with (first | (go_at_call 17; refine know_at (by (repeat (first | exact kk (unhide HK) | apply kkbox | apply kkdrew | apply kkdrewN | apply kkalloc))) (fun hKa => ?_); (try simp only [World.size_alloc] at hKa); (try simp only [World.size_drew] at hKa); refine (awake_any _).mono ?_; rintro e w1 ⟨rfl, hb1⟩; have HK := hide (kafter hKa hb1); clear hKa hb1; have HC := ktells (unhide HK); (try dsimp only at HC)) | (go_at_call 24; refine (rightStr_sym _ _ _ _ _).mono ?_; rintro e w1 ⟨rfl, o1, rfl⟩) | (go_at_call 31; refine (refIn_any _ _ _ _).mono ?_; rintro e w2 ⟨rfl, rfl⟩))
  refine know_here (by (repeat (first | exact kk (unhide HK) | apply kkbox | apply kkdrew | apply kkdrewN | apply kkalloc))) ?_
  intro V12 hKC
  (try simp only [World.size_alloc] at hKC)
  (try simp only [World.size_drew] at hKC)
  have HKC := hide hKC
  have HCC := ktells hKC
  (try dsimp only at HCC)
  refine Gen.begin_ [] 8 (by kernel_rfl) hKC (by rfl) ⟨fun x hx => absurd hx (by simp), by kernel_rfl, fun _ _ _ _ _ => Iff.rfl⟩ (fun okC => ?_)
  clear hKC
  refine Gen.take 0 (v := ?vv126) okC (by simp only [List.getElem?_toArray, List.getElem?_cons_zero]; rfl) (by kernel_rfl) (by kernel_rfl) (by kernel_rfl) (Or.inl ⟨by rfl, ?hh126⟩) ?_
  case hh126 => (intro wg hSw; have hc := ktells hSw; (try dsimp only at hc); go_simp; try with_reducible rfl)
  (try simp only [Act.put, List.setIfInBounds_toArray, List.set_cons_zero, List.set_cons_succ])
  refine Gen.take 1 (v := ?vv127) okC (by simp only [List.getElem?_toArray, List.getElem?_cons_zero, List.getElem?_cons_succ]; rfl) (by kernel_rfl) (by kernel_rfl) (by kernel_rfl) (Or.inl ⟨by rfl, ?hh127⟩) ?_
  case hh127 => (intro wg hSw; have hc := ktells hSw; (try dsimp only at hc); go_simp; try with_reducible rfl)
  (try simp only [Act.put, List.setIfInBounds_toArray, List.set_cons_zero, List.set_cons_succ])
  refine Gen.take 2 (v := ?vv128) okC (by simp only [List.getElem?_toArray, List.getElem?_cons_zero, List.getElem?_cons_succ]; rfl) (by kernel_rfl) (by kernel_rfl) (by kernel_rfl) (Or.inl ⟨by rfl, ?hh128⟩) ?_
  case hh128 => (intro wg hSw; have hc := ktells hSw; (try dsimp only at hc); go_simp; try with_reducible rfl)
  (try simp only [Act.put, List.setIfInBounds_toArray, List.set_cons_zero, List.set_cons_succ])
  refine Gen.take 3 (v := ?vv129) okC (by simp only [List.getElem?_toArray, List.getElem?_cons_zero, List.getElem?_cons_succ]; rfl) (by kernel_rfl) (by kernel_rfl) (by kernel_rfl) (Or.inl ⟨by rfl, ?hh129⟩) ?_
  case hh129 => (intro wg hSw; have hc := ktells hSw; (try dsimp only at hc); go_simp; try with_reducible rfl)
  (try simp only [Act.put, List.setIfInBounds_toArray, List.set_cons_zero, List.set_cons_succ])
  refine Gen.take 4 (v := ?vv130) okC (by simp only [List.getElem?_toArray, List.getElem?_cons_zero, List.getElem?_cons_succ]; rfl) (by kernel_rfl) (by kernel_rfl) (by kernel_rfl) (Or.inl ⟨by rfl, ?hh130⟩) ?_
  case hh130 => (intro wg hSw; have hc := ktells hSw; (try dsimp only at hc); go_simp; try with_reducible rfl)
  (try simp only [Act.put, List.setIfInBounds_toArray, List.set_cons_zero, List.set_cons_succ])
  refine Gen.step inferInstance Gen.size 5 okC (by kernel_rfl) inferInstance (by simp) (fun wg hKg hSg => wpOp_of (by simp only [List.getElem?_toArray, List.getElem?_cons_zero, List.getElem?_cons_succ]; rfl) (by rfl) ?_)
  go_simp
  refine (mkStr_is _ _ _ _ _).mono ?_
  rintro e wh ⟨rfl, o1, o2, rfl⟩
  (try dsimp only)
  refine Gen.stay rfl hKg (by (repeat (first | exact Below.refl _ _ | refine Below.allocs ?_ _ | refine Below.drew ?_ | refine Below.drewNs ?_ _))) ?_
  clear hKg hSg
  refine Gen.take 6 (v := ?vv131) okC (by simp only [List.getElem?_toArray, List.getElem?_cons_zero, List.getElem?_cons_succ]; rfl) (by kernel_rfl) (by kernel_rfl) (by kernel_rfl) (Or.inl ⟨by rfl, ?hh131⟩) ?_
  case hh131 => (intro wg hSw; have hc := ktells hSw; (try dsimp only at hc); go_simp; try with_reducible rfl)
  (try simp only [Act.put, List.setIfInBounds_toArray, List.set_cons_zero, List.set_cons_succ])
  refine Gen.take 7 (v := ?vv132) okC (by simp only [List.getElem?_toArray, List.getElem?_cons_zero, List.getElem?_cons_succ]; rfl) (by kernel_rfl) (by kernel_rfl) (by kernel_rfl) (Or.inl ⟨by rfl, ?hh132⟩) ?_
  case hh132 => (intro wg hSw; have hc := ktells hSw; (try dsimp only at hc); go_simp; try with_reducible rfl)
  (try simp only [Act.put, List.setIfInBounds_toArray, List.set_cons_zero, List.set_cons_succ])
  refine Gen.finish inferInstance Gen.size okC (by kernel_rfl) inferInstance (by simp) ?_
  simp only [Gen.Fin]
  intro  wf hKf hSf
  have hup := hSf.1
  clear hKf hSf
  refine Gen.done (by kernel_rfl) (kafter (unhide HKC) hup) (fun WC hKC => ?_) _
  clear okC hup 
  have HK := hide hKC
  have HC := ktells hKC
  (try dsimp only at HC)
  clear hKC
  go_upto_region 17 with (first | (go_at_call 17; refine know_at (by (repeat (first | exact kk (unhide HK) | apply kkbox | apply kkdrew | apply kkdrewN | apply kkalloc))) (fun hKa => ?_); (try simp only [World.size_alloc] at hKa); (try simp only [World.size_drew] at hKa); refine (awake_any _).mono ?_; rintro e w1 ⟨rfl, hb1⟩; have HK := hide (kafter hKa hb1); clear hKa hb1; have HC := ktells (unhide HK); (try dsimp only at HC)) | (go_at_call 24; refine (rightStr_sym _ _ _ _ _).mono ?_; rintro e w1 ⟨rfl, o1, rfl⟩) | (go_at_call 31; refine (refIn_any _ _ _ _).mono ?_; rintro e w2 ⟨rfl, rfl⟩))
  refine know_here (by (repeat (first | exact kk (unhide HK) | apply kkbox | apply kkdrew | apply kkdrewN | apply kkalloc))) ?_
  intro W16 hK16
  have HK := hide hK16
  clear HC
  have HC := ktells hK16
  (try dsimp only at HC)
  clear hK16
  obtain ⟨hx, hy, hb, hc, ha, ht', hs', hup⟩ := unhide HK
  obtain ⟨u, rfl, gx, gy, hu⟩ := graft2 (kAnd (kNew V2.heap.size BA10 _) (kAnd (kNew V2.heap.size BA11 _) (kAnd (kRow (w.heap.size + 1 + 1 + 1 + 1 + 1 + 1 + 1) _) (kAnd (kRow (w.heap.size + 1) _) (kAnd (kRow w.heap.size _) (kUp w)))))) hx hy ⟨hb, hc, ha, ht', hs', hup⟩
  clear hx hy hb hc ha ht' hs' hup HK HC
  have HC := ktells hu
  (try dsimp only at HC)
  have zx := gx.lt
  have zy := gy.lt
  go_wp2_with fail
  go_region
  go_upto_region 20 with fail
  obtain ⟨hb, hc, ha, ht', hs', hup⟩ := hu
  refine know_here (K := (kAnd (kRow BB2 _) (kAnd (kRow BB3 _) (kAnd (kNew V2.heap.size BA10 _) (kAnd (kNew V2.heap.size BA11 _) (kAnd (kRow (w.heap.size + 1 + 1 + 1 + 1 + 1 + 1 + 1) _) (kAnd (kRow (w.heap.size + 1) _) (kAnd (kRow w.heap.size _) (kUp w))))))))) ⟨Keeps.keep ((Below.refl _ _).drew) (show (kAnd (kRow BB2 _) (kAnd (kRow BB3 _) (kAnd (kNew V2.heap.size BA10 _) (kAnd (kNew V2.heap.size BA11 _) (kAnd (kRow (w.heap.size + 1 + 1 + 1 + 1 + 1 + 1 + 1) _) (kAnd (kRow (w.heap.size + 1) _) (kAnd (kRow w.heap.size _) (kUp w)))))))) _ from ⟨(RowIs.same gx _).other hne2_3 _, RowIs.same (gy.setRow _ _) _, ⟨(hb.1.other n2_0 _).other n3_0 _, hb.2⟩, ⟨(hc.1.other n2_1 _).other n3_1 _, hc.2⟩, (ha.other n2_2 _).other n3_2 _, (ht'.other n2_3 _).other n3_3 _, (hs'.other n2_4 _).other n3_4 _, belowRow (belowRow hup gw2 _) gw3 _⟩), inferInstance⟩ ?_
  intro WZ hKZ
  have HK := hide hKZ
  clear HC gx gy hb hc ha ht' hs' hup zx zy
  have HC := ktells hKZ
  (try dsimp only at HC)
  clear hKZ
  go_wp2_with (first | (go_at_call 17; refine know_at (by (repeat (first | exact kk (unhide HK) | apply kkbox | apply kkdrew | apply kkdrewN | apply kkalloc))) (fun hKa => ?_); (try simp only [World.size_alloc] at hKa); (try simp only [World.size_drew] at hKa); refine (awake_any _).mono ?_; rintro e w1 ⟨rfl, hb1⟩; have HK := hide (kafter hKa hb1); clear hKa hb1; have HC := ktells (unhide HK); (try dsimp only at HC)) | (go_at_call 24; refine (rightStr_sym _ _ _ _ _).mono ?_; rintro e w1 ⟨rfl, o1, rfl⟩) | (go_at_call 31; refine (refIn_any _ _ _ _).mono ?_; rintro e w2 ⟨rfl, rfl⟩))
  all_goals (go_ret; exact ⟨rfl, kup (unhide HK)⟩)

set_option maxRecDepth 100000 in
set_option maxHeartbeats 12800000 in
theorem heats5gy (M H S G M' H' S' G' k a1 a2 a3 a4 ea b1 b2 b3 b4 c1 c2 c3 c4 eb : Int) (HH : Hid (heatR ⟨M, H, S, G⟩ k = (⟨a1, a2, a3, a4⟩, ea))) (HE : Hid (exR ⟨M, H, S, G⟩ ⟨M', H', S', G'⟩ k = (⟨b1, b2, b3, b4⟩, ⟨c1, c2, c3, c4⟩, eb))) (hs : strOk ⟨M, H, S, G⟩ = true) (hin : inB k (-5000000000) 5000000000 = true) (ht : strOk ⟨M', H', S', G'⟩ = true) (hx : strOk ⟨M, H + k, S, G⟩ = true) (za : M = a1 ∧ a2 = H + k ∧ S = a3 ∧ G = a4) (ea' : ea = 0) (hk : decide (k < 0) = false) (hx' : strOk ⟨M, H - k, S, G⟩ = true) (hy' : strOk ⟨M', H' + k, S', G'⟩ = false) (zb : (b1 = 0 ∧ b2 = 0 ∧ b3 = 0 ∧ b4 = 0) ∧ c1 = 0 ∧ c2 = 0 ∧ c3 = 0 ∧ c4 = 0) (eb' : eb = 2) (w : World) :
    Calls Try.prog 11 #[.agg #[.int .i64 M, .int .i64 H, .int .i64 S, .int .i64 G], .agg #[.int .i64 M', .int .i64 H', .int .i64 S', .int .i64 G'], .int .i64 k] w fun e w' => e = .returned (.bool true) ∧ Below w.heap.size w w' := by
  have HK : Hid (kUp w w) := hide (Below.refl _ _)
  have Bs := strOk_iff.1 hs
  obtain ⟨x0, x1, x2, x3, x4, x5, x6, x7⟩ := Bs
  dsimp only at x0 x1 x2 x3 x4 x5 x6 x7
  obtain ⟨k0, k1⟩ := inB_iff.1 hin
  have w1' : IntKind.i64.wrap (H + k) = H + k := w64 (by omega) (by omega)
  have w2' : IntKind.i64.wrap (H - k) = H - k := w64 (by omega) (by omega)
  have Bt := strOk_iff.1 ht
  obtain ⟨y0, y1, y2, y3, y4, y5, y6, y7⟩ := Bt
  dsimp only at y0 y1 y2 y3 y4 y5 y6 y7
  have w3' : IntKind.i64.wrap (H' + k) = H' + k := w64 (by omega) (by omega)
  obtain ⟨rfl, rfl, rfl, rfl⟩ := za
  obtain ⟨⟨rfl, rfl, rfl, rfl⟩, rfl, rfl, rfl, rfl⟩ := zb
  subst ea' eb'
  go_enter Try.func11, Try.ntmps11
  go_upto_region 2 with (first | (go_at_call 26; refine (mkStr_is _ _ _ _ _).mono ?_; rintro e w1 ⟨rfl, o1, o2, rfl⟩) | (go_at_call 44; refine (heated_is _ _ _ _ _ _ _ (unhide HH) _).mono ?_; rintro e w2 ⟨rfl, o3, o4, o5, rfl⟩))
  refine know_here (by (repeat (first | exact kk (unhide HK) | apply kkbox | apply kkdrew | apply kkdrewN | apply kkalloc))) ?_
  intro V2 hKA
  (try simp only [World.size_alloc] at hKA)
  (try simp only [World.size_drew] at hKA)
  have HKA := hide hKA
  have HCA := ktells hKA
  (try dsimp only at HCA)
  refine Gen.begin_ [⟨10, 9, #[.int .i64 0, .int .i64 0, .int .i64 0, .int .i64 0], 42⟩, ⟨11, 10, #[.int .i64 0, .int .i64 0, .int .i64 0, .int .i64 0], 42⟩] 13 (by kernel_rfl) hKA (by rfl) ⟨fun x hx => by (simp only [List.mem_cons, List.not_mem_nil, or_false] at hx; rcases hx with rfl | rfl; all_goals exact ⟨_, by rfl, by rfl, by rfl, fun _ _ => by kernel_rfl⟩), by kernel_rfl, fun _ _ _ _ _ => Iff.rfl⟩ (fun okA => ?_)
  clear hKA
  refine Gen.take 0 (v := ?vv133) okA (by simp only [List.getElem?_toArray, List.getElem?_cons_zero]; rfl) (by kernel_rfl) (by kernel_rfl) (by kernel_rfl) (Or.inl ⟨by rfl, ?hh133⟩) ?_
  case hh133 => (intro wg hSw; have hc := ktells hSw; (try dsimp only at hc); go_simp; try with_reducible rfl)
  (try simp only [Act.put, List.setIfInBounds_toArray, List.set_cons_zero, List.set_cons_succ])
  refine Gen.take 2 (v := ?vv134) okA (by simp only [List.getElem?_toArray, List.getElem?_cons_zero, List.getElem?_cons_succ]; rfl) (by kernel_rfl) (by kernel_rfl) (by kernel_rfl) (Or.inl ⟨by rfl, ?hh134⟩) ?_
  case hh134 => (intro wg hSw; have hc := ktells hSw; (try dsimp only at hc); go_simp; try with_reducible rfl)
  (try simp only [Act.put, List.setIfInBounds_toArray, List.set_cons_zero, List.set_cons_succ])
  refine Gen.take 4 (v := ?vv135) okA (by simp only [List.getElem?_toArray, List.getElem?_cons_zero, List.getElem?_cons_succ]; rfl) (by kernel_rfl) (by kernel_rfl) (by kernel_rfl) (Or.inl ⟨by rfl, ?hh135⟩) ?_
  case hh135 => (intro wg hSw; have hc := ktells hSw; (try dsimp only at hc); go_simp; try with_reducible rfl)
  (try simp only [Act.put, List.setIfInBounds_toArray, List.set_cons_zero, List.set_cons_succ])
  refine Gen.step inferInstance Gen.size 1 okA (by kernel_rfl) inferInstance (by simp) (fun wg hKg hSg => wpOp_of (by simp only [List.getElem?_toArray, List.getElem?_cons_zero, List.getElem?_cons_succ]; rfl) (by rfl) ?_)
  go_simp
  refine (mkStr_is _ _ _ _ _).mono ?_
  rintro e wh ⟨rfl, o1, o2, rfl⟩
  (try dsimp only)
  refine Gen.stay rfl hKg (by (repeat (first | exact Below.refl _ _ | refine Below.allocs ?_ _ | refine Below.drew ?_ | refine Below.drewNs ?_ _))) ?_
  clear hKg hSg
  refine Gen.step inferInstance Gen.size 3 okA (by kernel_rfl) inferInstance (by simp) (fun wg hKg hSg => wpOp_of (by simp only [List.getElem?_toArray, List.getElem?_cons_zero, List.getElem?_cons_succ]; rfl) (by rfl) ?_)
  go_simp
  refine (mkStr_is _ _ _ _ _).mono ?_
  rintro e wh ⟨rfl, o1, o2, rfl⟩
  (try dsimp only)
  refine Gen.stay rfl hKg (by (repeat (first | exact Below.refl _ _ | refine Below.allocs ?_ _ | refine Below.drew ?_ | refine Below.drewNs ?_ _))) ?_
  clear hKg hSg
  refine Gen.step inferInstance Gen.size 5 okA (by kernel_rfl) inferInstance (by simp) (fun wg hKg hSg => wpOp_of (by simp only [List.getElem?_toArray, List.getElem?_cons_zero, List.getElem?_cons_succ]; rfl) (by rfl) ?_)
  go_simp
  refine (exchange_is _ _ _ _ _ _ _ _ _ _ _ _ _ _ _ _ _ _ (unhide HE) _).mono ?_
  rintro e wh ⟨rfl, hb1⟩
  (try dsimp only)
  refine Gen.stay rfl hKg hb1 ?_
  clear hKg hSg
  clear hb1
  refine Gen.take 6 (v := ?vv136) okA (by simp only [List.getElem?_toArray, List.getElem?_cons_zero, List.getElem?_cons_succ]; rfl) (by kernel_rfl) (by kernel_rfl) (by kernel_rfl) (Or.inl ⟨by rfl, ?hh136⟩) ?_
  case hh136 => (intro wg hSw; have hc := ktells hSw; (try dsimp only at hc); go_simp; try with_reducible rfl)
  (try simp only [Act.put, List.setIfInBounds_toArray, List.set_cons_zero, List.set_cons_succ])
  refine Gen.take 7 (v := ?vv137) okA (by simp only [List.getElem?_toArray, List.getElem?_cons_zero, List.getElem?_cons_succ]; rfl) (by kernel_rfl) (by kernel_rfl) (by kernel_rfl) (Or.inl ⟨by rfl, ?hh137⟩) ?_
  case hh137 => (intro wg hSw; have hc := ktells hSw; (try dsimp only at hc); go_simp; try with_reducible rfl)
  (try simp only [Act.put, List.setIfInBounds_toArray, List.set_cons_zero, List.set_cons_succ])
  refine Gen.take 8 (v := ?vv138) okA (by simp only [List.getElem?_toArray, List.getElem?_cons_zero, List.getElem?_cons_succ]; rfl) (by kernel_rfl) (by kernel_rfl) (by kernel_rfl) (Or.inl ⟨by rfl, ?hh138⟩) ?_
  case hh138 => (intro wg hSw; have hc := ktells hSw; (try dsimp only at hc); go_simp; try with_reducible rfl)
  (try simp only [Act.put, List.setIfInBounds_toArray, List.set_cons_zero, List.set_cons_succ])
  refine Gen.take 9 (v := ?vv139) okA (by simp only [List.getElem?_toArray, List.getElem?_cons_zero, List.getElem?_cons_succ]; rfl) (by kernel_rfl) (by kernel_rfl) (by kernel_rfl) (Or.inl ⟨by rfl, ?hh139⟩) ?_
  case hh139 => (intro wg hSw; have hc := ktells hSw; (try dsimp only at hc); go_simp; try with_reducible rfl)
  (try simp only [Act.put, List.setIfInBounds_toArray, List.set_cons_zero, List.set_cons_succ])
  refine Gen.finish inferInstance Gen.size okA (by kernel_rfl) inferInstance (by simp) ?_
  simp only [Gen.Fin, NewVar.put]
  (try simp only [Act.put, List.setIfInBounds_toArray, List.set_cons_zero, List.set_cons_succ])
  intro BA10 hnA10 BA11 hnA11 wf hKf hSf
  obtain ⟨wu, rfl, hg10, hg11, hup⟩ := graft2 (fun W => Below V2.heap.size V2 W) hKf.2.1.1 hKf.1.1 hSf.1
  have hz10 := hKf.2.1.2
  have hz11 := hKf.1.2
  have hne10_11 : BA10 ≠ BA11 := fun e => hnA11 (by simp [e])
  have hne11_10 : BA11 ≠ BA10 := fun e => hne10_11 e.symm
  clear hKf hSf
  refine Gen.one 12 (by kernel_rfl) (wpOp_of (by simp only [List.getElem?_toArray, List.getElem?_cons_zero, List.getElem?_cons_succ]; rfl) (by rfl) ?_)
  go_simp
  (try simp only [Act.put, List.setIfInBounds_toArray, List.set_cons_zero, List.set_cons_succ])
  refine ⟨⟨(belowRow (belowRow hup hz10 _) hz11 _), kafter (unhide HKA) (belowRow (belowRow hup hz10 _) hz11 _)⟩, ?_⟩
  refine Gen.one 13 (by kernel_rfl) (wpOp_of (by simp only [List.getElem?_toArray, List.getElem?_cons_zero, List.getElem?_cons_succ]; rfl) (by rfl) ?_)
  go_simp
  (try simp only [Act.put, List.setIfInBounds_toArray, List.set_cons_zero, List.set_cons_succ])
  refine ⟨⟨(belowRow (belowRow hup hz10 _) hz11 _), kafter (unhide HKA) (belowRow (belowRow hup hz10 _) hz11 _)⟩, ?_⟩
  refine Gen.one 14 (by kernel_rfl) (wpOp_of (by simp only [List.getElem?_toArray, List.getElem?_cons_zero, List.getElem?_cons_succ]; rfl) (by rfl) ?_)
  go_simp
  (try simp only [Act.put, List.setIfInBounds_toArray, List.set_cons_zero, List.set_cons_succ])
  refine ⟨⟨(belowRow (belowRow hup hz10 _) hz11 _), kafter (unhide HKA) (belowRow (belowRow hup hz10 _) hz11 _)⟩, ?_⟩
  refine Gen.done (K := (kAnd (kNew V2.heap.size BA10 _) (kAnd (kNew V2.heap.size BA11 _) _))) (by kernel_rfl) ⟨⟨(RowIs.other (RowIs.same hg10 _) hne10_11 _), hz10⟩, ⟨⟨(RowIs.same (IsRow.setRow hg11 _ _) _), hz11⟩, kafter (unhide HKA) (belowRow (belowRow hup hz10 _) hz11 _)⟩⟩ (fun WA hKA => ?_) _
  clear okA hup hg10 hz10 hg11 hz11
  have HK := hide hKA
  have HC := ktells hKA
  (try dsimp only at HC)
  clear hKA
  go_upto_region 6 with (first | (go_at_call 17; refine know_at (by (repeat (first | exact kk (unhide HK) | apply kkbox | apply kkdrew | apply kkdrewN | apply kkalloc))) (fun hKa => ?_); (try simp only [World.size_alloc] at hKa); (try simp only [World.size_drew] at hKa); refine (awake_any _).mono ?_; rintro e w1 ⟨rfl, hb1⟩; have HK := hide (kafter hKa hb1); clear hKa hb1; have HC := ktells (unhide HK); (try dsimp only at HC)) | (go_at_call 24; refine (rightStr_sym _ _ _ _ _).mono ?_; rintro e w1 ⟨rfl, o1, rfl⟩) | (go_at_call 31; refine (refIn_any _ _ _ _).mono ?_; rintro e w2 ⟨rfl, rfl⟩))
  refine know_here (by (repeat (first | exact kk (unhide HK) | apply kkbox | apply kkdrew | apply kkdrewN | apply kkalloc))) ?_
  intro V6 hKB
  (try simp only [World.size_alloc] at hKB)
  (try simp only [World.size_drew] at hKB)
  have HKB := hide hKB
  have HCB := ktells hKB
  (try dsimp only at HCB)
  refine Gen.begin_ [⟨2, 13, #[.int .i64 0, .int .i64 0, .int .i64 0, .int .i64 0], 39⟩, ⟨3, 14, #[.int .i64 0, .int .i64 0, .int .i64 0, .int .i64 0], 39⟩] 4 (by kernel_rfl) hKB (by rfl) ⟨fun x hx => by (simp only [List.mem_cons, List.not_mem_nil, or_false] at hx; rcases hx with rfl | rfl; all_goals exact ⟨_, by rfl, by rfl, by rfl, fun _ _ => by kernel_rfl⟩), by kernel_rfl, fun _ _ _ _ _ => Iff.rfl⟩ (fun okB => ?_)
  clear hKB
  refine Gen.take 0 (v := ?vv140) okB (by simp only [List.getElem?_toArray, List.getElem?_cons_zero]; rfl) (by kernel_rfl) (by kernel_rfl) (by kernel_rfl) (Or.inl ⟨by rfl, ?hh140⟩) ?_
  case hh140 => (intro wg hSw; have hc := ktells hSw; (try dsimp only at hc); go_simp; try with_reducible rfl)
  (try simp only [Act.put, List.setIfInBounds_toArray, List.set_cons_zero, List.set_cons_succ])
  refine Gen.take 1 (v := ?vv141) okB (by simp only [List.getElem?_toArray, List.getElem?_cons_zero, List.getElem?_cons_succ]; rfl) (by kernel_rfl) (by kernel_rfl) (by kernel_rfl) (Or.inl ⟨by rfl, ?hh141⟩) ?_
  case hh141 => (intro wg hSw; have hc := ktells hSw; (try dsimp only at hc); go_simp; try with_reducible rfl)
  (try simp only [Act.put, List.setIfInBounds_toArray, List.set_cons_zero, List.set_cons_succ])
  refine Gen.finish inferInstance Gen.size okB (by kernel_rfl) inferInstance (by simp) ?_
  simp only [Gen.Fin, NewVar.put]
  (try simp only [Act.put, List.setIfInBounds_toArray, List.set_cons_zero, List.set_cons_succ])
  intro BB2 hnB2 BB3 hnB3 wf hKf hSf
  obtain ⟨wu, rfl, hg2, hg3, hup⟩ := graft2 (fun W => Below V6.heap.size V6 W) hKf.2.1.1 hKf.1.1 hSf.1
  have hz2 := hKf.2.1.2
  have hz3 := hKf.1.2
  have hne2_3 : BB2 ≠ BB3 := fun e => hnB3 (by simp [e])
  have hne3_2 : BB3 ≠ BB2 := fun e => hne2_3 e.symm
  clear hKf hSf
  refine Gen.one 4 (by kernel_rfl) (wpOp_of (by simp only [List.getElem?_toArray, List.getElem?_cons_zero, List.getElem?_cons_succ]; rfl) (by rfl) ?_)
  go_simp
  (try simp only [Act.put, List.setIfInBounds_toArray, List.set_cons_zero, List.set_cons_succ])
  refine ⟨⟨(belowRow (belowRow hup hz2 _) hz3 _), kafter (unhide HKB) (belowRow (belowRow hup hz2 _) hz3 _)⟩, ?_⟩
  refine Gen.one 5 (by kernel_rfl) (wpOp_of (by simp only [List.getElem?_toArray, List.getElem?_cons_zero, List.getElem?_cons_succ]; rfl) (by rfl) ?_)
  go_simp
  (try simp only [Act.put, List.setIfInBounds_toArray, List.set_cons_zero, List.set_cons_succ])
  refine ⟨⟨(belowRow (belowRow hup hz2 _) hz3 _), kafter (unhide HKB) (belowRow (belowRow hup hz2 _) hz3 _)⟩, ?_⟩
  refine Gen.done (K := (kAnd (kNew V6.heap.size BB2 _) (kAnd (kNew V6.heap.size BB3 _) _))) (by kernel_rfl) ⟨⟨(RowIs.other (RowIs.same hg2 _) hne2_3 _), hz2⟩, ⟨⟨(RowIs.same (IsRow.setRow hg3 _ _) _), hz3⟩, kafter (unhide HKB) (belowRow (belowRow hup hz2 _) hz3 _)⟩⟩ (fun WB hKB => ?_) _
  clear okB hup hg2 hz2 hg3 hz3
  have HK := hide hKB
  have HC := ktells hKB
  (try dsimp only at HC)
  clear hKB
  obtain ⟨hx, hy, hb, hc, ha, ht', hs', hup⟩ := unhide HK
  have x2 := hx.2
  have x3 := hy.2
  obtain ⟨u, rfl, gx, gy, hu⟩ := graft2 (kAnd (kNew V2.heap.size BA10 _) (kAnd (kNew V2.heap.size BA11 _) (kAnd (kRow (w.heap.size + 1 + 1 + 1 + 1 + 1 + 1 + 1) _) (kAnd (kRow (w.heap.size + 1) _) (kAnd (kRow w.heap.size _) (kUp w)))))) hx.1 hy.1 ⟨hb, hc, ha, ht', hs', hup⟩
  clear hx hy hb hc ha ht' hs' hup HK HC
  have HC := ktells hu
  (try dsimp only at HC)
  have zx := gx.lt
  have zy := gy.lt
  have n2_0 : BA10 ≠ BB2 := by omega
  have m2_0 : BB2 ≠ BA10 := by omega
  have n3_0 : BA10 ≠ BB3 := by omega
  have m3_0 : BB3 ≠ BA10 := by omega
  have n2_1 : BA11 ≠ BB2 := by omega
  have m2_1 : BB2 ≠ BA11 := by omega
  have n3_1 : BA11 ≠ BB3 := by omega
  have m3_1 : BB3 ≠ BA11 := by omega
  have n2_2 : w.heap.size + 1 + 1 + 1 + 1 + 1 + 1 + 1 ≠ BB2 := by omega
  have m2_2 : BB2 ≠ w.heap.size + 1 + 1 + 1 + 1 + 1 + 1 + 1 := by omega
  have n3_2 : w.heap.size + 1 + 1 + 1 + 1 + 1 + 1 + 1 ≠ BB3 := by omega
  have m3_2 : BB3 ≠ w.heap.size + 1 + 1 + 1 + 1 + 1 + 1 + 1 := by omega
  have n2_3 : w.heap.size + 1 ≠ BB2 := by omega
  have m2_3 : BB2 ≠ w.heap.size + 1 := by omega
  have n3_3 : w.heap.size + 1 ≠ BB3 := by omega
  have m3_3 : BB3 ≠ w.heap.size + 1 := by omega
  have n2_4 : w.heap.size ≠ BB2 := by omega
  have m2_4 : BB2 ≠ w.heap.size := by omega
  have n3_4 : w.heap.size ≠ BB3 := by omega
  have m3_4 : BB3 ≠ w.heap.size := by omega
  have gw2 : w.heap.size ≤ BB2 := by omega
  have gw3 : w.heap.size ≤ BB3 := by omega
  go_upto_region 9 with fail
  obtain ⟨hb, hc, ha, ht', hs', hup⟩ := hu
  refine know_here (K := (kAnd (kRow BB2 _) (kAnd (kRow BB3 _) (kAnd (kNew V2.heap.size BA10 _) (kAnd (kNew V2.heap.size BA11 _) (kAnd (kRow (w.heap.size + 1 + 1 + 1 + 1 + 1 + 1 + 1) _) (kAnd (kRow (w.heap.size + 1) _) (kAnd (kRow w.heap.size _) (kUp w))))))))) ⟨⟨(RowIs.same gx _).other hne2_3 _, RowIs.same (gy.setRow _ _) _, ⟨(hb.1.other n2_0 _).other n3_0 _, hb.2⟩, ⟨(hc.1.other n2_1 _).other n3_1 _, hc.2⟩, (ha.other n2_2 _).other n3_2 _, (ht'.other n2_3 _).other n3_3 _, (hs'.other n2_4 _).other n3_4 _, belowRow (belowRow hup gw2 _) gw3 _⟩, inferInstance⟩ ?_
  intro WY hKY
  have HK := hide hKY
  clear HC gx gy hb hc ha ht' hs' hup zx zy
  have HC := ktells hKY
  (try dsimp only at HC)
  clear hKY
  go_upto_region 12 with (first | (go_at_call 17; refine know_at (by (repeat (first | exact kk (unhide HK) | apply kkbox | apply kkdrew | apply kkdrewN | apply kkalloc))) (fun hKa => ?_); (try simp only [World.size_alloc] at hKa); (try simp only [World.size_drew] at hKa); refine (awake_any _).mono ?_; rintro e w1 ⟨rfl, hb1⟩; have HK := hide (kafter hKa hb1); clear hKa hb1; have HC := ktells (unhide HK); (try dsimp only at HC)) | (go_at_call 24; refine (rightStr_sym _ _ _ _ _).mono ?_; rintro e w1 ⟨rfl, o1, rfl⟩) | (go_at_call 31; refine (refIn_any _ _ _ _).mono ?_; rintro e w2 ⟨rfl, rfl⟩))
  refine know_here (by (repeat (first | exact kk (unhide HK) | apply kkbox | apply kkdrew | apply kkdrewN | apply kkalloc))) ?_
  intro V12 hKC
  (try simp only [World.size_alloc] at hKC)
  (try simp only [World.size_drew] at hKC)
  have HKC := hide hKC
  have HCC := ktells hKC
  (try dsimp only at HCC)
  refine Gen.begin_ [] 8 (by kernel_rfl) hKC (by rfl) ⟨fun x hx => absurd hx (by simp), by kernel_rfl, fun _ _ _ _ _ => Iff.rfl⟩ (fun okC => ?_)
  clear hKC
  refine Gen.take 0 (v := ?vv142) okC (by simp only [List.getElem?_toArray, List.getElem?_cons_zero]; rfl) (by kernel_rfl) (by kernel_rfl) (by kernel_rfl) (Or.inl ⟨by rfl, ?hh142⟩) ?_
  case hh142 => (intro wg hSw; have hc := ktells hSw; (try dsimp only at hc); go_simp; try with_reducible rfl)
  (try simp only [Act.put, List.setIfInBounds_toArray, List.set_cons_zero, List.set_cons_succ])
  refine Gen.take 1 (v := ?vv143) okC (by simp only [List.getElem?_toArray, List.getElem?_cons_zero, List.getElem?_cons_succ]; rfl) (by kernel_rfl) (by kernel_rfl) (by kernel_rfl) (Or.inl ⟨by rfl, ?hh143⟩) ?_
  case hh143 => (intro wg hSw; have hc := ktells hSw; (try dsimp only at hc); go_simp; try with_reducible rfl)
  (try simp only [Act.put, List.setIfInBounds_toArray, List.set_cons_zero, List.set_cons_succ])
  refine Gen.take 2 (v := ?vv144) okC (by simp only [List.getElem?_toArray, List.getElem?_cons_zero, List.getElem?_cons_succ]; rfl) (by kernel_rfl) (by kernel_rfl) (by kernel_rfl) (Or.inl ⟨by rfl, ?hh144⟩) ?_
  case hh144 => (intro wg hSw; have hc := ktells hSw; (try dsimp only at hc); go_simp; try with_reducible rfl)
  (try simp only [Act.put, List.setIfInBounds_toArray, List.set_cons_zero, List.set_cons_succ])
  refine Gen.take 3 (v := ?vv145) okC (by simp only [List.getElem?_toArray, List.getElem?_cons_zero, List.getElem?_cons_succ]; rfl) (by kernel_rfl) (by kernel_rfl) (by kernel_rfl) (Or.inl ⟨by rfl, ?hh145⟩) ?_
  case hh145 => (intro wg hSw; have hc := ktells hSw; (try dsimp only at hc); go_simp; try with_reducible rfl)
  (try simp only [Act.put, List.setIfInBounds_toArray, List.set_cons_zero, List.set_cons_succ])
  refine Gen.take 4 (v := ?vv146) okC (by simp only [List.getElem?_toArray, List.getElem?_cons_zero, List.getElem?_cons_succ]; rfl) (by kernel_rfl) (by kernel_rfl) (by kernel_rfl) (Or.inl ⟨by rfl, ?hh146⟩) ?_
  case hh146 => (intro wg hSw; have hc := ktells hSw; (try dsimp only at hc); go_simp; try with_reducible rfl)
  (try simp only [Act.put, List.setIfInBounds_toArray, List.set_cons_zero, List.set_cons_succ])
  refine Gen.step inferInstance Gen.size 5 okC (by kernel_rfl) inferInstance (by simp) (fun wg hKg hSg => wpOp_of (by simp only [List.getElem?_toArray, List.getElem?_cons_zero, List.getElem?_cons_succ]; rfl) (by rfl) ?_)
  go_simp
  refine (mkStr_is _ _ _ _ _).mono ?_
  rintro e wh ⟨rfl, o1, o2, rfl⟩
  (try dsimp only)
  refine Gen.stay rfl hKg (by (repeat (first | exact Below.refl _ _ | refine Below.allocs ?_ _ | refine Below.drew ?_ | refine Below.drewNs ?_ _))) ?_
  clear hKg hSg
  refine Gen.take 6 (v := ?vv147) okC (by simp only [List.getElem?_toArray, List.getElem?_cons_zero, List.getElem?_cons_succ]; rfl) (by kernel_rfl) (by kernel_rfl) (by kernel_rfl) (Or.inl ⟨by rfl, ?hh147⟩) ?_
  case hh147 => (intro wg hSw; have hc := ktells hSw; (try dsimp only at hc); go_simp; try with_reducible rfl)
  (try simp only [Act.put, List.setIfInBounds_toArray, List.set_cons_zero, List.set_cons_succ])
  refine Gen.take 7 (v := ?vv148) okC (by simp only [List.getElem?_toArray, List.getElem?_cons_zero, List.getElem?_cons_succ]; rfl) (by kernel_rfl) (by kernel_rfl) (by kernel_rfl) (Or.inl ⟨by rfl, ?hh148⟩) ?_
  case hh148 => (intro wg hSw; have hc := ktells hSw; (try dsimp only at hc); go_simp; try with_reducible rfl)
  (try simp only [Act.put, List.setIfInBounds_toArray, List.set_cons_zero, List.set_cons_succ])
  refine Gen.finish inferInstance Gen.size okC (by kernel_rfl) inferInstance (by simp) ?_
  simp only [Gen.Fin]
  intro  wf hKf hSf
  have hup := hSf.1
  clear hKf hSf
  refine Gen.done (by kernel_rfl) (kafter (unhide HKC) hup) (fun WC hKC => ?_) _
  clear okC hup 
  have HK := hide hKC
  have HC := ktells hKC
  (try dsimp only at HC)
  clear hKC
  go_upto_region 17 with (first | (go_at_call 17; refine know_at (by (repeat (first | exact kk (unhide HK) | apply kkbox | apply kkdrew | apply kkdrewN | apply kkalloc))) (fun hKa => ?_); (try simp only [World.size_alloc] at hKa); (try simp only [World.size_drew] at hKa); refine (awake_any _).mono ?_; rintro e w1 ⟨rfl, hb1⟩; have HK := hide (kafter hKa hb1); clear hKa hb1; have HC := ktells (unhide HK); (try dsimp only at HC)) | (go_at_call 24; refine (rightStr_sym _ _ _ _ _).mono ?_; rintro e w1 ⟨rfl, o1, rfl⟩) | (go_at_call 31; refine (refIn_any _ _ _ _).mono ?_; rintro e w2 ⟨rfl, rfl⟩))
  refine know_here (by (repeat (first | exact kk (unhide HK) | apply kkbox | apply kkdrew | apply kkdrewN | apply kkalloc))) ?_
  intro W16 hK16
  have HK := hide hK16
  clear HC
  have HC := ktells hK16
  (try dsimp only at HC)
  clear hK16
  obtain ⟨hx, hy, hb, hc, ha, ht', hs', hup⟩ := unhide HK
  obtain ⟨u, rfl, gx, gy, hu⟩ := graft2 (kAnd (kNew V2.heap.size BA10 _) (kAnd (kNew V2.heap.size BA11 _) (kAnd (kRow (w.heap.size + 1 + 1 + 1 + 1 + 1 + 1 + 1) _) (kAnd (kRow (w.heap.size + 1) _) (kAnd (kRow w.heap.size _) (kUp w)))))) hx hy ⟨hb, hc, ha, ht', hs', hup⟩
  clear hx hy hb hc ha ht' hs' hup HK HC
  have HC := ktells hu
  (try dsimp only at HC)
  have zx := gx.lt
  have zy := gy.lt
  go_wp2_with fail
  go_region
  go_upto_region 20 with fail
  obtain ⟨hb, hc, ha, ht', hs', hup⟩ := hu
  refine know_here (K := (kAnd (kRow BB2 _) (kAnd (kRow BB3 _) (kAnd (kNew V2.heap.size BA10 _) (kAnd (kNew V2.heap.size BA11 _) (kAnd (kRow (w.heap.size + 1 + 1 + 1 + 1 + 1 + 1 + 1) _) (kAnd (kRow (w.heap.size + 1) _) (kAnd (kRow w.heap.size _) (kUp w))))))))) ⟨Keeps.keep ((Below.refl _ _).drew) (show (kAnd (kRow BB2 _) (kAnd (kRow BB3 _) (kAnd (kNew V2.heap.size BA10 _) (kAnd (kNew V2.heap.size BA11 _) (kAnd (kRow (w.heap.size + 1 + 1 + 1 + 1 + 1 + 1 + 1) _) (kAnd (kRow (w.heap.size + 1) _) (kAnd (kRow w.heap.size _) (kUp w)))))))) _ from ⟨(RowIs.same gx _).other hne2_3 _, RowIs.same (gy.setRow _ _) _, ⟨(hb.1.other n2_0 _).other n3_0 _, hb.2⟩, ⟨(hc.1.other n2_1 _).other n3_1 _, hc.2⟩, (ha.other n2_2 _).other n3_2 _, (ht'.other n2_3 _).other n3_3 _, (hs'.other n2_4 _).other n3_4 _, belowRow (belowRow hup gw2 _) gw3 _⟩), inferInstance⟩ ?_
  intro WZ hKZ
  have HK := hide hKZ
  clear HC gx gy hb hc ha ht' hs' hup zx zy
  have HC := ktells hKZ
  (try dsimp only at HC)
  clear hKZ
  go_wp2_with (first | (go_at_call 17; refine know_at (by (repeat (first | exact kk (unhide HK) | apply kkbox | apply kkdrew | apply kkdrewN | apply kkalloc))) (fun hKa => ?_); (try simp only [World.size_alloc] at hKa); (try simp only [World.size_drew] at hKa); refine (awake_any _).mono ?_; rintro e w1 ⟨rfl, hb1⟩; have HK := hide (kafter hKa hb1); clear hKa hb1; have HC := ktells (unhide HK); (try dsimp only at HC)) | (go_at_call 24; refine (rightStr_sym _ _ _ _ _).mono ?_; rintro e w1 ⟨rfl, o1, rfl⟩) | (go_at_call 31; refine (refIn_any _ _ _ _).mono ?_; rintro e w2 ⟨rfl, rfl⟩))
  all_goals (go_ret; exact ⟨rfl, kup (unhide HK)⟩)

set_option maxRecDepth 100000 in
set_option maxHeartbeats 12800000 in
theorem heats6g (M H S G M' H' S' G' k a1 a2 a3 a4 ea b1 b2 b3 b4 c1 c2 c3 c4 eb : Int) (HH : Hid (heatR ⟨M, H, S, G⟩ k = (⟨a1, a2, a3, a4⟩, ea))) (HE : Hid (exR ⟨M, H, S, G⟩ ⟨M', H', S', G'⟩ k = (⟨b1, b2, b3, b4⟩, ⟨c1, c2, c3, c4⟩, eb))) (hs : strOk ⟨M, H, S, G⟩ = true) (hin : inB k (-5000000000) 5000000000 = true) (ht : strOk ⟨M', H', S', G'⟩ = true) (hx : strOk ⟨M, H + k, S, G⟩ = true) (za : M = a1 ∧ a2 = H + k ∧ S = a3 ∧ G = a4) (ea' : ea = 0) (hk : decide (k < 0) = false) (hx' : strOk ⟨M, H - k, S, G⟩ = true) (hy' : strOk ⟨M', H' + k, S', G'⟩ = true) (zb : (M = b1 ∧ b2 = H - k ∧ S = b3 ∧ G = b4) ∧ M' = c1 ∧ c2 = H' + k ∧ S' = c3 ∧ G' = c4) (eb' : eb = 0) (w : World) :
    Calls Try.prog 11 #[.agg #[.int .i64 M, .int .i64 H, .int .i64 S, .int .i64 G], .agg #[.int .i64 M', .int .i64 H', .int .i64 S', .int .i64 G'], .int .i64 k] w fun e w' => e = .returned (.bool true) ∧ Below w.heap.size w w' := by
  have HK : Hid (kUp w w) := hide (Below.refl _ _)
  have Bs := strOk_iff.1 hs
  obtain ⟨x0, x1, x2, x3, x4, x5, x6, x7⟩ := Bs
  dsimp only at x0 x1 x2 x3 x4 x5 x6 x7
  obtain ⟨k0, k1⟩ := inB_iff.1 hin
  have w1' : IntKind.i64.wrap (H + k) = H + k := w64 (by omega) (by omega)
  have w2' : IntKind.i64.wrap (H - k) = H - k := w64 (by omega) (by omega)
  have Bt := strOk_iff.1 ht
  obtain ⟨y0, y1, y2, y3, y4, y5, y6, y7⟩ := Bt
  dsimp only at y0 y1 y2 y3 y4 y5 y6 y7
  have w3' : IntKind.i64.wrap (H' + k) = H' + k := w64 (by omega) (by omega)
  obtain ⟨rfl, rfl, rfl, rfl⟩ := za
  obtain ⟨⟨rfl, rfl, rfl, rfl⟩, rfl, rfl, rfl, rfl⟩ := zb
  subst ea' eb'
  go_enter Try.func11, Try.ntmps11
  go_upto_region 2 with (first | (go_at_call 26; refine (mkStr_is _ _ _ _ _).mono ?_; rintro e w1 ⟨rfl, o1, o2, rfl⟩) | (go_at_call 44; refine (heated_is _ _ _ _ _ _ _ (unhide HH) _).mono ?_; rintro e w2 ⟨rfl, o3, o4, o5, rfl⟩))
  refine know_here (by (repeat (first | exact kk (unhide HK) | apply kkbox | apply kkdrew | apply kkdrewN | apply kkalloc))) ?_
  intro V2 hKA
  (try simp only [World.size_alloc] at hKA)
  (try simp only [World.size_drew] at hKA)
  have HKA := hide hKA
  have HCA := ktells hKA
  (try dsimp only at HCA)
  refine Gen.begin_ [⟨10, 9, #[.int .i64 0, .int .i64 0, .int .i64 0, .int .i64 0], 42⟩, ⟨11, 10, #[.int .i64 0, .int .i64 0, .int .i64 0, .int .i64 0], 42⟩] 13 (by kernel_rfl) hKA (by rfl) ⟨fun x hx => by (simp only [List.mem_cons, List.not_mem_nil, or_false] at hx; rcases hx with rfl | rfl; all_goals exact ⟨_, by rfl, by rfl, by rfl, fun _ _ => by kernel_rfl⟩), by kernel_rfl, fun _ _ _ _ _ => Iff.rfl⟩ (fun okA => ?_)
  clear hKA
  refine Gen.take 0 (v := ?vv149) okA (by simp only [List.getElem?_toArray, List.getElem?_cons_zero]; rfl) (by kernel_rfl) (by kernel_rfl) (by kernel_rfl) (Or.inl ⟨by rfl, ?hh149⟩) ?_
  case hh149 => (intro wg hSw; have hc := ktells hSw; (try dsimp only at hc); go_simp; try with_reducible rfl)
  (try simp only [Act.put, List.setIfInBounds_toArray, List.set_cons_zero, List.set_cons_succ])
  refine Gen.take 2 (v := ?vv150) okA (by simp only [List.getElem?_toArray, List.getElem?_cons_zero, List.getElem?_cons_succ]; rfl) (by kernel_rfl) (by kernel_rfl) (by kernel_rfl) (Or.inl ⟨by rfl, ?hh150⟩) ?_
  case hh150 => (intro wg hSw; have hc := ktells hSw; (try dsimp only at hc); go_simp; try with_reducible rfl)
  (try simp only [Act.put, List.setIfInBounds_toArray, List.set_cons_zero, List.set_cons_succ])
  refine Gen.take 4 (v := ?vv151) okA (by simp only [List.getElem?_toArray, List.getElem?_cons_zero, List.getElem?_cons_succ]; rfl) (by kernel_rfl) (by kernel_rfl) (by kernel_rfl) (Or.inl ⟨by rfl, ?hh151⟩) ?_
  case hh151 => (intro wg hSw; have hc := ktells hSw; (try dsimp only at hc); go_simp; try with_reducible rfl)
  (try simp only [Act.put, List.setIfInBounds_toArray, List.set_cons_zero, List.set_cons_succ])
  refine Gen.step inferInstance Gen.size 1 okA (by kernel_rfl) inferInstance (by simp) (fun wg hKg hSg => wpOp_of (by simp only [List.getElem?_toArray, List.getElem?_cons_zero, List.getElem?_cons_succ]; rfl) (by rfl) ?_)
  go_simp
  refine (mkStr_is _ _ _ _ _).mono ?_
  rintro e wh ⟨rfl, o1, o2, rfl⟩
  (try dsimp only)
  refine Gen.stay rfl hKg (by (repeat (first | exact Below.refl _ _ | refine Below.allocs ?_ _ | refine Below.drew ?_ | refine Below.drewNs ?_ _))) ?_
  clear hKg hSg
  refine Gen.step inferInstance Gen.size 3 okA (by kernel_rfl) inferInstance (by simp) (fun wg hKg hSg => wpOp_of (by simp only [List.getElem?_toArray, List.getElem?_cons_zero, List.getElem?_cons_succ]; rfl) (by rfl) ?_)
  go_simp
  refine (mkStr_is _ _ _ _ _).mono ?_
  rintro e wh ⟨rfl, o1, o2, rfl⟩
  (try dsimp only)
  refine Gen.stay rfl hKg (by (repeat (first | exact Below.refl _ _ | refine Below.allocs ?_ _ | refine Below.drew ?_ | refine Below.drewNs ?_ _))) ?_
  clear hKg hSg
  refine Gen.step inferInstance Gen.size 5 okA (by kernel_rfl) inferInstance (by simp) (fun wg hKg hSg => wpOp_of (by simp only [List.getElem?_toArray, List.getElem?_cons_zero, List.getElem?_cons_succ]; rfl) (by rfl) ?_)
  go_simp
  refine (exchange_is _ _ _ _ _ _ _ _ _ _ _ _ _ _ _ _ _ _ (unhide HE) _).mono ?_
  rintro e wh ⟨rfl, hb1⟩
  (try dsimp only)
  refine Gen.stay rfl hKg hb1 ?_
  clear hKg hSg
  clear hb1
  refine Gen.take 6 (v := ?vv152) okA (by simp only [List.getElem?_toArray, List.getElem?_cons_zero, List.getElem?_cons_succ]; rfl) (by kernel_rfl) (by kernel_rfl) (by kernel_rfl) (Or.inl ⟨by rfl, ?hh152⟩) ?_
  case hh152 => (intro wg hSw; have hc := ktells hSw; (try dsimp only at hc); go_simp; try with_reducible rfl)
  (try simp only [Act.put, List.setIfInBounds_toArray, List.set_cons_zero, List.set_cons_succ])
  refine Gen.take 7 (v := ?vv153) okA (by simp only [List.getElem?_toArray, List.getElem?_cons_zero, List.getElem?_cons_succ]; rfl) (by kernel_rfl) (by kernel_rfl) (by kernel_rfl) (Or.inl ⟨by rfl, ?hh153⟩) ?_
  case hh153 => (intro wg hSw; have hc := ktells hSw; (try dsimp only at hc); go_simp; try with_reducible rfl)
  (try simp only [Act.put, List.setIfInBounds_toArray, List.set_cons_zero, List.set_cons_succ])
  refine Gen.take 8 (v := ?vv154) okA (by simp only [List.getElem?_toArray, List.getElem?_cons_zero, List.getElem?_cons_succ]; rfl) (by kernel_rfl) (by kernel_rfl) (by kernel_rfl) (Or.inl ⟨by rfl, ?hh154⟩) ?_
  case hh154 => (intro wg hSw; have hc := ktells hSw; (try dsimp only at hc); go_simp; try with_reducible rfl)
  (try simp only [Act.put, List.setIfInBounds_toArray, List.set_cons_zero, List.set_cons_succ])
  refine Gen.take 9 (v := ?vv155) okA (by simp only [List.getElem?_toArray, List.getElem?_cons_zero, List.getElem?_cons_succ]; rfl) (by kernel_rfl) (by kernel_rfl) (by kernel_rfl) (Or.inl ⟨by rfl, ?hh155⟩) ?_
  case hh155 => (intro wg hSw; have hc := ktells hSw; (try dsimp only at hc); go_simp; try with_reducible rfl)
  (try simp only [Act.put, List.setIfInBounds_toArray, List.set_cons_zero, List.set_cons_succ])
  refine Gen.finish inferInstance Gen.size okA (by kernel_rfl) inferInstance (by simp) ?_
  simp only [Gen.Fin, NewVar.put]
  (try simp only [Act.put, List.setIfInBounds_toArray, List.set_cons_zero, List.set_cons_succ])
  intro BA10 hnA10 BA11 hnA11 wf hKf hSf
  obtain ⟨wu, rfl, hg10, hg11, hup⟩ := graft2 (fun W => Below V2.heap.size V2 W) hKf.2.1.1 hKf.1.1 hSf.1
  have hz10 := hKf.2.1.2
  have hz11 := hKf.1.2
  have hne10_11 : BA10 ≠ BA11 := fun e => hnA11 (by simp [e])
  have hne11_10 : BA11 ≠ BA10 := fun e => hne10_11 e.symm
  clear hKf hSf
  refine Gen.one 12 (by kernel_rfl) (wpOp_of (by simp only [List.getElem?_toArray, List.getElem?_cons_zero, List.getElem?_cons_succ]; rfl) (by rfl) ?_)
  go_simp
  (try simp only [Act.put, List.setIfInBounds_toArray, List.set_cons_zero, List.set_cons_succ])
  refine ⟨⟨(belowRow (belowRow hup hz10 _) hz11 _), kafter (unhide HKA) (belowRow (belowRow hup hz10 _) hz11 _)⟩, ?_⟩
  refine Gen.one 13 (by kernel_rfl) (wpOp_of (by simp only [List.getElem?_toArray, List.getElem?_cons_zero, List.getElem?_cons_succ]; rfl) (by rfl) ?_)
  go_simp
  (try simp only [Act.put, List.setIfInBounds_toArray, List.set_cons_zero, List.set_cons_succ])
  refine ⟨⟨(belowRow (belowRow hup hz10 _) hz11 _), kafter (unhide HKA) (belowRow (belowRow hup hz10 _) hz11 _)⟩, ?_⟩
  refine Gen.one 14 (by kernel_rfl) (wpOp_of (by simp only [List.getElem?_toArray, List.getElem?_cons_zero, List.getElem?_cons_succ]; rfl) (by rfl) ?_)
  go_simp
  (try simp only [Act.put, List.setIfInBounds_toArray, List.set_cons_zero, List.set_cons_succ])
  refine ⟨⟨(belowRow (belowRow hup hz10 _) hz11 _), kafter (unhide HKA) (belowRow (belowRow hup hz10 _) hz11 _)⟩, ?_⟩
  refine Gen.done (K := (kAnd (kNew V2.heap.size BA10 _) (kAnd (kNew V2.heap.size BA11 _) _))) (by kernel_rfl) ⟨⟨(RowIs.other (RowIs.same hg10 _) hne10_11 _), hz10⟩, ⟨⟨(RowIs.same (IsRow.setRow hg11 _ _) _), hz11⟩, kafter (unhide HKA) (belowRow (belowRow hup hz10 _) hz11 _)⟩⟩ (fun WA hKA => ?_) _
  clear okA hup hg10 hz10 hg11 hz11
  have HK := hide hKA
  have HC := ktells hKA
  (try dsimp only at HC)
  clear hKA
  go_upto_region 6 with (first | (go_at_call 17; refine know_at (by (repeat (first | exact kk (unhide HK) | apply kkbox | apply kkdrew | apply kkdrewN | apply kkalloc))) (fun hKa => ?_); (try simp only [World.size_alloc] at hKa); (try simp only [World.size_drew] at hKa); refine (awake_any _).mono ?_; rintro e w1 ⟨rfl, hb1⟩; have HK := hide (kafter hKa hb1); clear hKa hb1; have HC := ktells (unhide HK); (try dsimp only at HC)) | (go_at_call 24; refine (rightStr_sym _ _ _ _ _).mono ?_; rintro e w1 ⟨rfl, o1, rfl⟩) | (go_at_call 31; refine (refIn_any _ _ _ _).mono ?_; rintro e w2 ⟨rfl, rfl⟩))
  refine know_here (by (repeat (first | exact kk (unhide HK) | apply kkbox | apply kkdrew | apply kkdrewN | apply kkalloc))) ?_
  intro V6 hKB
  (try simp only [World.size_alloc] at hKB)
  (try simp only [World.size_drew] at hKB)
  have HKB := hide hKB
  have HCB := ktells hKB
  (try dsimp only at HCB)
  refine Gen.begin_ [⟨2, 13, #[.int .i64 0, .int .i64 0, .int .i64 0, .int .i64 0], 39⟩, ⟨3, 14, #[.int .i64 0, .int .i64 0, .int .i64 0, .int .i64 0], 39⟩] 4 (by kernel_rfl) hKB (by rfl) ⟨fun x hx => by (simp only [List.mem_cons, List.not_mem_nil, or_false] at hx; rcases hx with rfl | rfl; all_goals exact ⟨_, by rfl, by rfl, by rfl, fun _ _ => by kernel_rfl⟩), by kernel_rfl, fun _ _ _ _ _ => Iff.rfl⟩ (fun okB => ?_)
  clear hKB
  refine Gen.take 0 (v := ?vv156) okB (by simp only [List.getElem?_toArray, List.getElem?_cons_zero]; rfl) (by kernel_rfl) (by kernel_rfl) (by kernel_rfl) (Or.inl ⟨by rfl, ?hh156⟩) ?_
  case hh156 => (intro wg hSw; have hc := ktells hSw; (try dsimp only at hc); go_simp; try with_reducible rfl)
  (try simp only [Act.put, List.setIfInBounds_toArray, List.set_cons_zero, List.set_cons_succ])
  refine Gen.take 1 (v := ?vv157) okB (by simp only [List.getElem?_toArray, List.getElem?_cons_zero, List.getElem?_cons_succ]; rfl) (by kernel_rfl) (by kernel_rfl) (by kernel_rfl) (Or.inl ⟨by rfl, ?hh157⟩) ?_
  case hh157 => (intro wg hSw; have hc := ktells hSw; (try dsimp only at hc); go_simp; try with_reducible rfl)
  (try simp only [Act.put, List.setIfInBounds_toArray, List.set_cons_zero, List.set_cons_succ])
  refine Gen.finish inferInstance Gen.size okB (by kernel_rfl) inferInstance (by simp) ?_
  simp only [Gen.Fin, NewVar.put]
  (try simp only [Act.put, List.setIfInBounds_toArray, List.set_cons_zero, List.set_cons_succ])
  intro BB2 hnB2 BB3 hnB3 wf hKf hSf
  obtain ⟨wu, rfl, hg2, hg3, hup⟩ := graft2 (fun W => Below V6.heap.size V6 W) hKf.2.1.1 hKf.1.1 hSf.1
  have hz2 := hKf.2.1.2
  have hz3 := hKf.1.2
  have hne2_3 : BB2 ≠ BB3 := fun e => hnB3 (by simp [e])
  have hne3_2 : BB3 ≠ BB2 := fun e => hne2_3 e.symm
  clear hKf hSf
  refine Gen.one 4 (by kernel_rfl) (wpOp_of (by simp only [List.getElem?_toArray, List.getElem?_cons_zero, List.getElem?_cons_succ]; rfl) (by rfl) ?_)
  go_simp
  (try simp only [Act.put, List.setIfInBounds_toArray, List.set_cons_zero, List.set_cons_succ])
  refine ⟨⟨(belowRow (belowRow hup hz2 _) hz3 _), kafter (unhide HKB) (belowRow (belowRow hup hz2 _) hz3 _)⟩, ?_⟩
  refine Gen.one 5 (by kernel_rfl) (wpOp_of (by simp only [List.getElem?_toArray, List.getElem?_cons_zero, List.getElem?_cons_succ]; rfl) (by rfl) ?_)
  go_simp
  (try simp only [Act.put, List.setIfInBounds_toArray, List.set_cons_zero, List.set_cons_succ])
  refine ⟨⟨(belowRow (belowRow hup hz2 _) hz3 _), kafter (unhide HKB) (belowRow (belowRow hup hz2 _) hz3 _)⟩, ?_⟩
  refine Gen.done (K := (kAnd (kNew V6.heap.size BB2 _) (kAnd (kNew V6.heap.size BB3 _) _))) (by kernel_rfl) ⟨⟨(RowIs.other (RowIs.same hg2 _) hne2_3 _), hz2⟩, ⟨⟨(RowIs.same (IsRow.setRow hg3 _ _) _), hz3⟩, kafter (unhide HKB) (belowRow (belowRow hup hz2 _) hz3 _)⟩⟩ (fun WB hKB => ?_) _
  clear okB hup hg2 hz2 hg3 hz3
  have HK := hide hKB
  have HC := ktells hKB
  (try dsimp only at HC)
  clear hKB
  obtain ⟨hx, hy, hb, hc, ha, ht', hs', hup⟩ := unhide HK
  have x2 := hx.2
  have x3 := hy.2
  obtain ⟨u, rfl, gx, gy, hu⟩ := graft2 (kAnd (kNew V2.heap.size BA10 _) (kAnd (kNew V2.heap.size BA11 _) (kAnd (kRow (w.heap.size + 1 + 1 + 1 + 1 + 1 + 1 + 1) _) (kAnd (kRow (w.heap.size + 1) _) (kAnd (kRow w.heap.size _) (kUp w)))))) hx.1 hy.1 ⟨hb, hc, ha, ht', hs', hup⟩
  clear hx hy hb hc ha ht' hs' hup HK HC
  have HC := ktells hu
  (try dsimp only at HC)
  have zx := gx.lt
  have zy := gy.lt
  have n2_0 : BA10 ≠ BB2 := by omega
  have m2_0 : BB2 ≠ BA10 := by omega
  have n3_0 : BA10 ≠ BB3 := by omega
  have m3_0 : BB3 ≠ BA10 := by omega
  have n2_1 : BA11 ≠ BB2 := by omega
  have m2_1 : BB2 ≠ BA11 := by omega
  have n3_1 : BA11 ≠ BB3 := by omega
  have m3_1 : BB3 ≠ BA11 := by omega
  have n2_2 : w.heap.size + 1 + 1 + 1 + 1 + 1 + 1 + 1 ≠ BB2 := by omega
  have m2_2 : BB2 ≠ w.heap.size + 1 + 1 + 1 + 1 + 1 + 1 + 1 := by omega
  have n3_2 : w.heap.size + 1 + 1 + 1 + 1 + 1 + 1 + 1 ≠ BB3 := by omega
  have m3_2 : BB3 ≠ w.heap.size + 1 + 1 + 1 + 1 + 1 + 1 + 1 := by omega
  have n2_3 : w.heap.size + 1 ≠ BB2 := by omega
  have m2_3 : BB2 ≠ w.heap.size + 1 := by omega
  have n3_3 : w.heap.size + 1 ≠ BB3 := by omega
  have m3_3 : BB3 ≠ w.heap.size + 1 := by omega
  have n2_4 : w.heap.size ≠ BB2 := by omega
  have m2_4 : BB2 ≠ w.heap.size := by omega
  have n3_4 : w.heap.size ≠ BB3 := by omega
  have m3_4 : BB3 ≠ w.heap.size := by omega
  have gw2 : w.heap.size ≤ BB2 := by omega
  have gw3 : w.heap.size ≤ BB3 := by omega
  go_upto_region 9 with fail
  obtain ⟨hb, hc, ha, ht', hs', hup⟩ := hu
  refine know_here (K := (kAnd (kRow BB2 _) (kAnd (kRow BB3 _) (kAnd (kNew V2.heap.size BA10 _) (kAnd (kNew V2.heap.size BA11 _) (kAnd (kRow (w.heap.size + 1 + 1 + 1 + 1 + 1 + 1 + 1) _) (kAnd (kRow (w.heap.size + 1) _) (kAnd (kRow w.heap.size _) (kUp w))))))))) ⟨⟨(RowIs.same gx _).other hne2_3 _, RowIs.same (gy.setRow _ _) _, ⟨(hb.1.other n2_0 _).other n3_0 _, hb.2⟩, ⟨(hc.1.other n2_1 _).other n3_1 _, hc.2⟩, (ha.other n2_2 _).other n3_2 _, (ht'.other n2_3 _).other n3_3 _, (hs'.other n2_4 _).other n3_4 _, belowRow (belowRow hup gw2 _) gw3 _⟩, inferInstance⟩ ?_
  intro WY hKY
  have HK := hide hKY
  clear HC gx gy hb hc ha ht' hs' hup zx zy
  have HC := ktells hKY
  (try dsimp only at HC)
  clear hKY
  go_upto_region 12 with (first | (go_at_call 17; refine know_at (by (repeat (first | exact kk (unhide HK) | apply kkbox | apply kkdrew | apply kkdrewN | apply kkalloc))) (fun hKa => ?_); (try simp only [World.size_alloc] at hKa); (try simp only [World.size_drew] at hKa); refine (awake_any _).mono ?_; rintro e w1 ⟨rfl, hb1⟩; have HK := hide (kafter hKa hb1); clear hKa hb1; have HC := ktells (unhide HK); (try dsimp only at HC)) | (go_at_call 24; refine (rightStr_sym _ _ _ _ _).mono ?_; rintro e w1 ⟨rfl, o1, rfl⟩) | (go_at_call 31; refine (refIn_any _ _ _ _).mono ?_; rintro e w2 ⟨rfl, rfl⟩))
  refine know_here (by (repeat (first | exact kk (unhide HK) | apply kkbox | apply kkdrew | apply kkdrewN | apply kkalloc))) ?_
  intro V12 hKC
  (try simp only [World.size_alloc] at hKC)
  (try simp only [World.size_drew] at hKC)
  have HKC := hide hKC
  have HCC := ktells hKC
  (try dsimp only at HCC)
  refine Gen.begin_ [] 8 (by kernel_rfl) hKC (by rfl) ⟨fun x hx => absurd hx (by simp), by kernel_rfl, fun _ _ _ _ _ => Iff.rfl⟩ (fun okC => ?_)
  clear hKC
  refine Gen.take 0 (v := ?vv158) okC (by simp only [List.getElem?_toArray, List.getElem?_cons_zero]; rfl) (by kernel_rfl) (by kernel_rfl) (by kernel_rfl) (Or.inl ⟨by rfl, ?hh158⟩) ?_
  case hh158 => (intro wg hSw; have hc := ktells hSw; (try dsimp only at hc); go_simp; try with_reducible rfl)
  (try simp only [Act.put, List.setIfInBounds_toArray, List.set_cons_zero, List.set_cons_succ])
  refine Gen.take 1 (v := ?vv159) okC (by simp only [List.getElem?_toArray, List.getElem?_cons_zero, List.getElem?_cons_succ]; rfl) (by kernel_rfl) (by kernel_rfl) (by kernel_rfl) (Or.inl ⟨by rfl, ?hh159⟩) ?_
  case hh159 => (intro wg hSw; have hc := ktells hSw; (try dsimp only at hc); go_simp; try with_reducible rfl)
  (try simp only [Act.put, List.setIfInBounds_toArray, List.set_cons_zero, List.set_cons_succ])
  refine Gen.take 2 (v := ?vv160) okC (by simp only [List.getElem?_toArray, List.getElem?_cons_zero, List.getElem?_cons_succ]; rfl) (by kernel_rfl) (by kernel_rfl) (by kernel_rfl) (Or.inl ⟨by rfl, ?hh160⟩) ?_
  case hh160 => (intro wg hSw; have hc := ktells hSw; (try dsimp only at hc); go_simp; try with_reducible rfl)
  (try simp only [Act.put, List.setIfInBounds_toArray, List.set_cons_zero, List.set_cons_succ])
  refine Gen.take 3 (v := ?vv161) okC (by simp only [List.getElem?_toArray, List.getElem?_cons_zero, List.getElem?_cons_succ]; rfl) (by kernel_rfl) (by kernel_rfl) (by kernel_rfl) (Or.inl ⟨by rfl, ?hh161⟩) ?_
  case hh161 => (intro wg hSw; have hc := ktells hSw; (try dsimp only at hc); go_simp; try with_reducible rfl)
  (try simp only [Act.put, List.setIfInBounds_toArray, List.set_cons_zero, List.set_cons_succ])
  refine Gen.take 4 (v := ?vv162) okC (by simp only [List.getElem?_toArray, List.getElem?_cons_zero, List.getElem?_cons_succ]; rfl) (by kernel_rfl) (by kernel_rfl) (by kernel_rfl) (Or.inl ⟨by rfl, ?hh162⟩) ?_
  case hh162 => (intro wg hSw; have hc := ktells hSw; (try dsimp only at hc); go_simp; try with_reducible rfl)
  (try simp only [Act.put, List.setIfInBounds_toArray, List.set_cons_zero, List.set_cons_succ])
  refine Gen.step inferInstance Gen.size 5 okC (by kernel_rfl) inferInstance (by simp) (fun wg hKg hSg => wpOp_of (by simp only [List.getElem?_toArray, List.getElem?_cons_zero, List.getElem?_cons_succ]; rfl) (by rfl) ?_)
  go_simp
  refine (mkStr_is _ _ _ _ _).mono ?_
  rintro e wh ⟨rfl, o1, o2, rfl⟩
  (try dsimp only)
  refine Gen.stay rfl hKg (by (repeat (first | exact Below.refl _ _ | refine Below.allocs ?_ _ | refine Below.drew ?_ | refine Below.drewNs ?_ _))) ?_
  clear hKg hSg
  refine Gen.take 6 (v := ?vv163) okC (by simp only [List.getElem?_toArray, List.getElem?_cons_zero, List.getElem?_cons_succ]; rfl) (by kernel_rfl) (by kernel_rfl) (by kernel_rfl) (Or.inl ⟨by rfl, ?hh163⟩) ?_
  case hh163 => (intro wg hSw; have hc := ktells hSw; (try dsimp only at hc); go_simp; try with_reducible rfl)
  (try simp only [Act.put, List.setIfInBounds_toArray, List.set_cons_zero, List.set_cons_succ])
  refine Gen.take 7 (v := ?vv164) okC (by simp only [List.getElem?_toArray, List.getElem?_cons_zero, List.getElem?_cons_succ]; rfl) (by kernel_rfl) (by kernel_rfl) (by kernel_rfl) (Or.inl ⟨by rfl, ?hh164⟩) ?_
  case hh164 => (intro wg hSw; have hc := ktells hSw; (try dsimp only at hc); go_simp; try with_reducible rfl)
  (try simp only [Act.put, List.setIfInBounds_toArray, List.set_cons_zero, List.set_cons_succ])
  refine Gen.finish inferInstance Gen.size okC (by kernel_rfl) inferInstance (by simp) ?_
  simp only [Gen.Fin]
  intro  wf hKf hSf
  have hup := hSf.1
  clear hKf hSf
  refine Gen.done (by kernel_rfl) (kafter (unhide HKC) hup) (fun WC hKC => ?_) _
  clear okC hup 
  have HK := hide hKC
  have HC := ktells hKC
  (try dsimp only at HC)
  clear hKC
  go_upto_region 17 with (first | (go_at_call 17; refine know_at (by (repeat (first | exact kk (unhide HK) | apply kkbox | apply kkdrew | apply kkdrewN | apply kkalloc))) (fun hKa => ?_); (try simp only [World.size_alloc] at hKa); (try simp only [World.size_drew] at hKa); refine (awake_any _).mono ?_; rintro e w1 ⟨rfl, hb1⟩; have HK := hide (kafter hKa hb1); clear hKa hb1; have HC := ktells (unhide HK); (try dsimp only at HC)) | (go_at_call 24; refine (rightStr_sym _ _ _ _ _).mono ?_; rintro e w1 ⟨rfl, o1, rfl⟩) | (go_at_call 31; refine (refIn_any _ _ _ _).mono ?_; rintro e w2 ⟨rfl, rfl⟩))
  refine know_here (by (repeat (first | exact kk (unhide HK) | apply kkbox | apply kkdrew | apply kkdrewN | apply kkalloc))) ?_
  intro W16 hK16
  have HK := hide hK16
  clear HC
  have HC := ktells hK16
  (try dsimp only at HC)
  clear hK16
  obtain ⟨hx, hy, hb, hc, ha, ht', hs', hup⟩ := unhide HK
  obtain ⟨u, rfl, gx, gy, hu⟩ := graft2 (kAnd (kNew V2.heap.size BA10 _) (kAnd (kNew V2.heap.size BA11 _) (kAnd (kRow (w.heap.size + 1 + 1 + 1 + 1 + 1 + 1 + 1) _) (kAnd (kRow (w.heap.size + 1) _) (kAnd (kRow w.heap.size _) (kUp w)))))) hx hy ⟨hb, hc, ha, ht', hs', hup⟩
  clear hx hy hb hc ha ht' hs' hup HK HC
  have HC := ktells hu
  (try dsimp only at HC)
  have zx := gx.lt
  have zy := gy.lt
  go_wp2_with fail
  go_region
  go_upto_region 20 with fail
  obtain ⟨hb, hc, ha, ht', hs', hup⟩ := hu
  refine know_here (K := (kAnd (kRow BB2 _) (kAnd (kRow BB3 _) (kAnd (kNew V2.heap.size BA10 _) (kAnd (kNew V2.heap.size BA11 _) (kAnd (kRow (w.heap.size + 1 + 1 + 1 + 1 + 1 + 1 + 1) _) (kAnd (kRow (w.heap.size + 1) _) (kAnd (kRow w.heap.size _) (kUp w))))))))) ⟨Keeps.keep ((Below.refl _ _).drew) (show (kAnd (kRow BB2 _) (kAnd (kRow BB3 _) (kAnd (kNew V2.heap.size BA10 _) (kAnd (kNew V2.heap.size BA11 _) (kAnd (kRow (w.heap.size + 1 + 1 + 1 + 1 + 1 + 1 + 1) _) (kAnd (kRow (w.heap.size + 1) _) (kAnd (kRow w.heap.size _) (kUp w)))))))) _ from ⟨(RowIs.same gx _).other hne2_3 _, RowIs.same (gy.setRow _ _) _, ⟨(hb.1.other n2_0 _).other n3_0 _, hb.2⟩, ⟨(hc.1.other n2_1 _).other n3_1 _, hc.2⟩, (ha.other n2_2 _).other n3_2 _, (ht'.other n2_3 _).other n3_3 _, (hs'.other n2_4 _).other n3_4 _, belowRow (belowRow hup gw2 _) gw3 _⟩), inferInstance⟩ ?_
  intro WZ hKZ
  have HK := hide hKZ
  clear HC gx gy hb hc ha ht' hs' hup zx zy
  have HC := ktells hKZ
  (try dsimp only at HC)
  clear hKZ
  go_upto_region 22 with (first | (go_at_call 17; refine know_at (by (repeat (first | exact kk (unhide HK) | apply kkbox | apply kkdrew | apply kkdrewN | apply kkalloc))) (fun hKa => ?_); (try simp only [World.size_alloc] at hKa); (try simp only [World.size_drew] at hKa); refine (awake_any _).mono ?_; rintro e w1 ⟨rfl, hb1⟩; have HK := hide (kafter hKa hb1); clear hKa hb1; have HC := ktells (unhide HK); (try dsimp only at HC)) | (go_at_call 24; refine (rightStr_sym _ _ _ _ _).mono ?_; rintro e w1 ⟨rfl, o1, rfl⟩) | (go_at_call 31; refine (refIn_any _ _ _ _).mono ?_; rintro e w2 ⟨rfl, rfl⟩))
  refine know_here (by (repeat (first | exact kk (unhide HK) | apply kkbox | apply kkdrew | apply kkdrewN | apply kkalloc))) ?_
  intro V22 hKD
  (try simp only [World.size_alloc] at hKD)
  (try simp only [World.size_drew] at hKD)
  have HKD := hide hKD
  have HCD := ktells hKD
  (try dsimp only at HCD)
  refine Gen.begin_ [] 18 (by kernel_rfl) hKD (by rfl) ⟨fun x hx => absurd hx (by simp), by kernel_rfl, fun _ _ _ _ _ => Iff.rfl⟩ (fun okD => ?_)
  clear hKD
  refine Gen.take 0 (v := ?vv165) okD (by simp only [List.getElem?_toArray, List.getElem?_cons_zero]; rfl) (by kernel_rfl) (by kernel_rfl) (by kernel_rfl) (Or.inl ⟨by rfl, ?hh165⟩) ?_
  case hh165 => (intro wg hSw; have hc := ktells hSw; (try dsimp only at hc); go_simp; try with_reducible rfl)
  (try simp only [Act.put, List.setIfInBounds_toArray, List.set_cons_zero, List.set_cons_succ])
  refine Gen.take 1 (v := ?vv166) okD (by simp only [List.getElem?_toArray, List.getElem?_cons_zero, List.getElem?_cons_succ]; rfl) (by kernel_rfl) (by kernel_rfl) (by kernel_rfl) (Or.inl ⟨by rfl, ?hh166⟩) ?_
  case hh166 => (intro wg hSw; have hc := ktells hSw; (try dsimp only at hc); go_simp; try with_reducible rfl)
  (try simp only [Act.put, List.setIfInBounds_toArray, List.set_cons_zero, List.set_cons_succ])
  refine Gen.take 2 (v := ?vv167) okD (by simp only [List.getElem?_toArray, List.getElem?_cons_zero, List.getElem?_cons_succ]; rfl) (by kernel_rfl) (by kernel_rfl) (by kernel_rfl) (Or.inl ⟨by rfl, ?hh167⟩) ?_
  case hh167 => (intro wg hSw; have hc := ktells hSw; (try dsimp only at hc); go_simp; try with_reducible rfl)
  (try simp only [Act.put, List.setIfInBounds_toArray, List.set_cons_zero, List.set_cons_succ])
  refine Gen.take 3 (v := ?vv168) okD (by simp only [List.getElem?_toArray, List.getElem?_cons_zero, List.getElem?_cons_succ]; rfl) (by kernel_rfl) (by kernel_rfl) (by kernel_rfl) (Or.inl ⟨by rfl, ?hh168⟩) ?_
  case hh168 => (intro wg hSw; have hc := ktells hSw; (try dsimp only at hc); go_simp; try with_reducible rfl)
  (try simp only [Act.put, List.setIfInBounds_toArray, List.set_cons_zero, List.set_cons_succ])
  refine Gen.take 4 (v := ?vv169) okD (by simp only [List.getElem?_toArray, List.getElem?_cons_zero, List.getElem?_cons_succ]; rfl) (by kernel_rfl) (by kernel_rfl) (by kernel_rfl) (Or.inl ⟨by rfl, ?hh169⟩) ?_
  case hh169 => (intro wg hSw; have hc := ktells hSw; (try dsimp only at hc); go_simp; try with_reducible rfl)
  (try simp only [Act.put, List.setIfInBounds_toArray, List.set_cons_zero, List.set_cons_succ])
  refine Gen.step inferInstance Gen.size 5 okD (by kernel_rfl) inferInstance (by simp) (fun wg hKg hSg => wpOp_of (by simp only [List.getElem?_toArray, List.getElem?_cons_zero, List.getElem?_cons_succ]; rfl) (by rfl) ?_)
  go_simp
  refine (mkStr_is _ _ _ _ _).mono ?_
  rintro e wh ⟨rfl, o1, o2, rfl⟩
  (try dsimp only)
  refine Gen.stay rfl hKg (by (repeat (first | exact Below.refl _ _ | refine Below.allocs ?_ _ | refine Below.drew ?_ | refine Below.drewNs ?_ _))) ?_
  clear hKg hSg
  refine Gen.take 6 (v := ?vv170) okD (by simp only [List.getElem?_toArray, List.getElem?_cons_zero, List.getElem?_cons_succ]; rfl) (by kernel_rfl) (by kernel_rfl) (by kernel_rfl) (Or.inl ⟨by rfl, ?hh170⟩) ?_
  case hh170 => (intro wg hSw; have hc := ktells hSw; (try dsimp only at hc); go_simp; try with_reducible rfl)
  (try simp only [Act.put, List.setIfInBounds_toArray, List.set_cons_zero, List.set_cons_succ])
  refine Gen.take 7 (v := ?vv171) okD (by simp only [List.getElem?_toArray, List.getElem?_cons_zero, List.getElem?_cons_succ]; rfl) (by kernel_rfl) (by kernel_rfl) (by kernel_rfl) (Or.inl ⟨by rfl, ?hh171⟩) ?_
  case hh171 => (intro wg hSw; have hc := ktells hSw; (try dsimp only at hc); go_simp; try with_reducible rfl)
  (try simp only [Act.put, List.setIfInBounds_toArray, List.set_cons_zero, List.set_cons_succ])
  refine Gen.take 8 (v := ?vv172) okD (by simp only [List.getElem?_toArray, List.getElem?_cons_zero, List.getElem?_cons_succ]; rfl) (by kernel_rfl) (by kernel_rfl) (by kernel_rfl) (Or.inl ⟨by rfl, ?hh172⟩) ?_
  case hh172 => (intro wg hSw; have hc := ktells hSw; (try dsimp only at hc); go_simp; try with_reducible rfl)
  (try simp only [Act.put, List.setIfInBounds_toArray, List.set_cons_zero, List.set_cons_succ])
  refine Gen.take 9 (v := ?vv173) okD (by simp only [List.getElem?_toArray, List.getElem?_cons_zero, List.getElem?_cons_succ]; rfl) (by kernel_rfl) (by kernel_rfl) (by kernel_rfl) (Or.inl ⟨by rfl, ?hh173⟩) ?_
  case hh173 => (intro wg hSw; have hc := ktells hSw; (try dsimp only at hc); go_simp; try with_reducible rfl)
  (try simp only [Act.put, List.setIfInBounds_toArray, List.set_cons_zero, List.set_cons_succ])
  refine Gen.take 10 (v := ?vv174) okD (by simp only [List.getElem?_toArray, List.getElem?_cons_zero, List.getElem?_cons_succ]; rfl) (by kernel_rfl) (by kernel_rfl) (by kernel_rfl) (Or.inl ⟨by rfl, ?hh174⟩) ?_
  case hh174 => (intro wg hSw; have hc := ktells hSw; (try dsimp only at hc); go_simp; try with_reducible rfl)
  (try simp only [Act.put, List.setIfInBounds_toArray, List.set_cons_zero, List.set_cons_succ])
  refine Gen.step inferInstance Gen.size 11 okD (by kernel_rfl) inferInstance (by simp) (fun wg hKg hSg => wpOp_of (by simp only [List.getElem?_toArray, List.getElem?_cons_zero, List.getElem?_cons_succ]; rfl) (by rfl) ?_)
  go_simp
  refine (mkStr_is _ _ _ _ _).mono ?_
  rintro e wh ⟨rfl, o1, o2, rfl⟩
  (try dsimp only)
  refine Gen.stay rfl hKg (by (repeat (first | exact Below.refl _ _ | refine Below.allocs ?_ _ | refine Below.drew ?_ | refine Below.drewNs ?_ _))) ?_
  clear hKg hSg
  refine Gen.take 12 (v := ?vv175) okD (by simp only [List.getElem?_toArray, List.getElem?_cons_zero, List.getElem?_cons_succ]; rfl) (by kernel_rfl) (by kernel_rfl) (by kernel_rfl) (Or.inl ⟨by rfl, ?hh175⟩) ?_
  case hh175 => (intro wg hSw; have hc := ktells hSw; (try dsimp only at hc); go_simp; try with_reducible rfl)
  (try simp only [Act.put, List.setIfInBounds_toArray, List.set_cons_zero, List.set_cons_succ])
  refine Gen.take 13 (v := ?vv176) okD (by simp only [List.getElem?_toArray, List.getElem?_cons_zero, List.getElem?_cons_succ]; rfl) (by kernel_rfl) (by kernel_rfl) (by kernel_rfl) (Or.inl ⟨by rfl, ?hh176⟩) ?_
  case hh176 => (intro wg hSw; have hc := ktells hSw; (try dsimp only at hc); go_simp; try with_reducible rfl)
  (try simp only [Act.put, List.setIfInBounds_toArray, List.set_cons_zero, List.set_cons_succ])
  refine Gen.take 14 (v := ?vv177) okD (by simp only [List.getElem?_toArray, List.getElem?_cons_zero, List.getElem?_cons_succ]; rfl) (by kernel_rfl) (by kernel_rfl) (by kernel_rfl) (Or.inl ⟨by rfl, ?hh177⟩) ?_
  case hh177 => (intro wg hSw; have hc := ktells hSw; (try dsimp only at hc); go_simp; try with_reducible rfl)
  (try simp only [Act.put, List.setIfInBounds_toArray, List.set_cons_zero, List.set_cons_succ])
  refine Gen.step inferInstance Gen.size 15 okD (by kernel_rfl) inferInstance (by simp) (fun wg hKg hSg => wpOp_of (by simp only [List.getElem?_toArray, List.getElem?_cons_zero, List.getElem?_cons_succ]; rfl) (by rfl) ?_)
  go_simp
  refine (awake_any _).mono ?_
  rintro e wh ⟨rfl, hb1⟩
  (try dsimp only)
  refine Gen.stay rfl hKg hb1 ?_
  clear hKg hSg
  clear hb1
  refine Gen.take 16 (v := ?vv178) okD (by simp only [List.getElem?_toArray, List.getElem?_cons_zero, List.getElem?_cons_succ]; rfl) (by kernel_rfl) (by kernel_rfl) (by kernel_rfl) (Or.inl ⟨by rfl, ?hh178⟩) ?_
  case hh178 => (intro wg hSw; have hc := ktells hSw; (try dsimp only at hc); go_simp; try with_reducible rfl)
  (try simp only [Act.put, List.setIfInBounds_toArray, List.set_cons_zero, List.set_cons_succ])
  refine Gen.finish inferInstance Gen.size okD (by kernel_rfl) inferInstance (by simp) ?_
  simp only [Gen.Fin]
  intro  wf hKf hSf
  have hup := hSf.1
  clear hKf hSf
  refine Gen.one 17 (by kernel_rfl) (wpOp_of (by simp only [List.getElem?_toArray, List.getElem?_cons_zero, List.getElem?_cons_succ]; rfl) (by rfl) ?_)
  go_simp
  (try simp only [Act.put, List.setIfInBounds_toArray, List.set_cons_zero, List.set_cons_succ])
  refine ⟨⟨hup, kafter (unhide HKD) hup⟩, ?_⟩
  refine Gen.done (by kernel_rfl) (kafter (unhide HKD) hup) (fun WD hKD => ?_) _
  clear okD hup 
  have HK := hide hKD
  have HC := ktells hKD
  (try dsimp only at HC)
  clear hKD
  go_wp2_with (first | (go_at_call 17; refine know_at (by (repeat (first | exact kk (unhide HK) | apply kkbox | apply kkdrew | apply kkdrewN | apply kkalloc))) (fun hKa => ?_); (try simp only [World.size_alloc] at hKa); (try simp only [World.size_drew] at hKa); refine (awake_any _).mono ?_; rintro e w1 ⟨rfl, hb1⟩; have HK := hide (kafter hKa hb1); clear hKa hb1; have HC := ktells (unhide HK); (try dsimp only at HC)) | (go_at_call 24; refine (rightStr_sym _ _ _ _ _).mono ?_; rintro e w1 ⟨rfl, o1, rfl⟩) | (go_at_call 31; refine (refIn_any _ _ _ _).mono ?_; rintro e w2 ⟨rfl, rfl⟩))
  all_goals (go_ret; exact ⟨rfl, kup (unhide HK)⟩)

theorem strOk_heat {M H S G : Int} (h : strOk ⟨M, H, S, G⟩ = true) (X : Int) : strOk ⟨M, X, S, G⟩ = inB X 0 (4000 * M) := by
  simp only [strOk, Bool.and_eq_true] at h
  obtain ⟨⟨⟨h1, _⟩, h3⟩, h4⟩ := h
  simp only [strOk, h1, h3, h4, Bool.true_and, Bool.and_true]

theorem lawHeats_any (s t : StrT) (k : Int) (w : World) :
    Calls Try.prog 11 #[vStr s, vStr t, .int .i64 k] w fun e w' => e = .returned (.bool true) ∧ Below w.heap.size w w' := by
  obtain ⟨M, H, S, G⟩ := s
  obtain ⟨M', H', S', G'⟩ := t
  cases hs : strOk ⟨M, H, S, G⟩ with
  | false =>
    exact heats1 M H S G M' H' S' G' k 0 0 0 0 1 0 0 0 0 0 0 0 0 1 (hide (by simp [heatR, hs, StrT.zero])) (hide (by simp [exR, hs, StrT.zero])) hs ⟨rfl, rfl, rfl, rfl⟩ ⟨⟨rfl, rfl, rfl, rfl⟩, rfl, rfl, rfl, rfl⟩ rfl rfl w
  | true =>
    have B := strOk_iff.1 hs
    obtain ⟨x0, x1, x2, x3, x4, x5, x6, x7⟩ := B
    dsimp only at x0 x1 x2 x3 x4 x5 x6 x7
    cases hin : inB k (-5000000000) 5000000000 with
    | false =>
      have hk : ¬ (-5000000000 ≤ k ∧ k ≤ 5000000000) := fun h => by rw [inB_of h.1 h.2] at hin; cases hin
      have hh : heatR ⟨M, H, S, G⟩ k = (StrT.zero, 2) := by
        have : k < -H ∨ 4000 * M - H < k := by omega
        simp [heatR, hs, this]
      cases ht : strOk ⟨M', H', S', G'⟩ with
      | false =>
        exact heats2 M H S G M' H' S' G' k 0 0 0 0 2 0 0 0 0 0 0 0 0 1 (hide hh) (hide (by simp [exR, ht, StrT.zero])) hs hin ht ⟨rfl, rfl, rfl, rfl⟩ ⟨⟨rfl, rfl, rfl, rfl⟩, rfl, rfl, rfl, rfl⟩ rfl rfl w
      | true =>
        have : k < 0 ∨ H < k ∨ 4000 * M' - H' < k := by omega
        exact heats3 M H S G M' H' S' G' k 0 0 0 0 2 0 0 0 0 0 0 0 0 2 (hide hh) (hide (by simp [exR, hs, ht, this, StrT.zero])) hs hin ht ⟨rfl, rfl, rfl, rfl⟩ ⟨⟨rfl, rfl, rfl, rfl⟩, rfl, rfl, rfl, rfl⟩ rfl rfl w
    | true =>
      have key : ∀ (a1 a2 a3 a4 ea : Int), heatR ⟨M, H, S, G⟩ k = (⟨a1, a2, a3, a4⟩, ea) → ((strOk ⟨M, H + k, S, G⟩ = false ∧ (a1 = 0 ∧ a2 = 0 ∧ a3 = 0 ∧ a4 = 0) ∧ ea = 2) ∨ (strOk ⟨M, H + k, S, G⟩ = true ∧ (M = a1 ∧ a2 = H + k ∧ S = a3 ∧ G = a4) ∧ ea = 0)) →
          Calls Try.prog 11 #[.agg #[.int .i64 M, .int .i64 H, .int .i64 S, .int .i64 G], .agg #[.int .i64 M', .int .i64 H', .int .i64 S', .int .i64 G'], .int .i64 k] w fun e w' => e = .returned (.bool true) ∧ Below w.heap.size w w' := by
        intro a1 a2 a3 a4 ea hh hc
        cases ht : strOk ⟨M', H', S', G'⟩ with
        | false =>
          rcases hc with ⟨hx, za, he⟩ | ⟨hx, za, he⟩
          · exact heats4b M H S G M' H' S' G' k a1 a2 a3 a4 ea 0 0 0 0 0 0 0 0 1 (hide hh) (hide (by simp [exR, ht, StrT.zero])) hs hin ht hx za he ⟨⟨rfl, rfl, rfl, rfl⟩, rfl, rfl, rfl, rfl⟩ rfl w
          · exact heats4g M H S G M' H' S' G' k a1 a2 a3 a4 ea 0 0 0 0 0 0 0 0 1 (hide hh) (hide (by simp [exR, ht, StrT.zero])) hs hin ht hx za he ⟨⟨rfl, rfl, rfl, rfl⟩, rfl, rfl, rfl, rfl⟩ rfl w
        | true =>
          have B' := strOk_iff.1 ht
          obtain ⟨y0, y1, y2, y3, _, _, _, _⟩ := B'
          dsimp only at y0 y1 y2 y3
          by_cases hk : k < 0
          · have ex : exR ⟨M, H, S, G⟩ ⟨M', H', S', G'⟩ k = (StrT.zero, StrT.zero, 2) := by simp [exR, hs, ht, hk]
            rcases hc with ⟨hx, za, he⟩ | ⟨hx, za, he⟩
            · exact heats5bk M H S G M' H' S' G' k a1 a2 a3 a4 ea 0 0 0 0 0 0 0 0 2 (hide hh) (hide ex) hs hin ht hx za he (decide_eq_true hk) ⟨⟨rfl, rfl, rfl, rfl⟩, rfl, rfl, rfl, rfl⟩ rfl w
            · exact heats5gk M H S G M' H' S' G' k a1 a2 a3 a4 ea 0 0 0 0 0 0 0 0 2 (hide hh) (hide ex) hs hin ht hx za he (decide_eq_true hk) ⟨⟨rfl, rfl, rfl, rfl⟩, rfl, rfl, rfl, rfl⟩ rfl w
          · have hk' := decide_eq_false hk
            cases hx' : strOk ⟨M, H - k, S, G⟩ with
            | false =>
              have hb : H < k := by
                rw [strOk_heat hs] at hx'
                apply Int.not_le.1
                intro h
                rw [inB_of (by omega) (by omega)] at hx'
                cases hx'
              have ex : exR ⟨M, H, S, G⟩ ⟨M', H', S', G'⟩ k = (StrT.zero, StrT.zero, 2) := by simp [exR, hs, ht, hb]
              rcases hc with ⟨hx, za, he⟩ | ⟨hx, za, he⟩
              · exact heats5bx M H S G M' H' S' G' k a1 a2 a3 a4 ea 0 0 0 0 0 0 0 0 2 (hide hh) (hide ex) hs hin ht hx za he hk' hx' ⟨⟨rfl, rfl, rfl, rfl⟩, rfl, rfl, rfl, rfl⟩ rfl w
              · exact heats5gx M H S G M' H' S' G' k a1 a2 a3 a4 ea 0 0 0 0 0 0 0 0 2 (hide hh) (hide ex) hs hin ht hx za he hk' hx' ⟨⟨rfl, rfl, rfl, rfl⟩, rfl, rfl, rfl, rfl⟩ rfl w
            | true =>
              have hb : k ≤ H := by
                rw [strOk_heat hs] at hx'
                have := (inB_iff.1 hx').1
                omega
              cases hy' : strOk ⟨M', H' + k, S', G'⟩ with
              | false =>
                have hc' : 4000 * M' - H' < k := by
                  rw [strOk_heat ht] at hy'
                  apply Int.not_le.1
                  intro h
                  rw [inB_of (by omega) (by omega)] at hy'
                  cases hy'
                have ex : exR ⟨M, H, S, G⟩ ⟨M', H', S', G'⟩ k = (StrT.zero, StrT.zero, 2) := by simp [exR, hs, ht, hc']
                rcases hc with ⟨hx, za, he⟩ | ⟨hx, za, he⟩
                · exact heats5by M H S G M' H' S' G' k a1 a2 a3 a4 ea 0 0 0 0 0 0 0 0 2 (hide hh) (hide ex) hs hin ht hx za he hk' hx' hy' ⟨⟨rfl, rfl, rfl, rfl⟩, rfl, rfl, rfl, rfl⟩ rfl w
                · exact heats5gy M H S G M' H' S' G' k a1 a2 a3 a4 ea 0 0 0 0 0 0 0 0 2 (hide hh) (hide ex) hs hin ht hx za he hk' hx' hy' ⟨⟨rfl, rfl, rfl, rfl⟩, rfl, rfl, rfl, rfl⟩ rfl w
              | true =>
                have hc' : ¬ (k < 0 ∨ H < k ∨ 4000 * M' - H' < k) := by
                  rw [strOk_heat ht] at hy'
                  have := (inB_iff.1 hy').2
                  omega
                have ex : exR ⟨M, H, S, G⟩ ⟨M', H', S', G'⟩ k = (⟨M, H - k, S, G⟩, ⟨M', H' + k, S', G'⟩, 0) := by
                  rw [exR, if_neg (by simp [hs, ht]), if_neg hc']
                rcases hc with ⟨hx, za, he⟩ | ⟨hx, za, he⟩
                · exact heats6b M H S G M' H' S' G' k a1 a2 a3 a4 ea M (H - k) S G M' (H' + k) S' G' 0 (hide hh) (hide ex) hs hin ht hx za he hk' hx' hy' ⟨⟨rfl, rfl, rfl, rfl⟩, rfl, rfl, rfl, rfl⟩ rfl w
                · exact heats6g M H S G M' H' S' G' k a1 a2 a3 a4 ea M (H - k) S G M' (H' + k) S' G' 0 (hide hh) (hide ex) hs hin ht hx za he hk' hx' hy' ⟨⟨rfl, rfl, rfl, rfl⟩, rfl, rfl, rfl, rfl⟩ rfl w
      cases hx : strOk ⟨M, H + k, S, G⟩ with
      | false =>
        have hb : k < -H ∨ 4000 * M - H < k := by
          rw [strOk_heat hs] at hx
          apply Decidable.byContradiction
          intro h
          rw [inB_of (by omega) (by omega)] at hx
          cases hx
        exact key 0 0 0 0 2 (by simp [heatR, hs, hb, StrT.zero]) (.inl ⟨hx, ⟨rfl, rfl, rfl, rfl⟩, rfl⟩)
      | true =>
        have hb : ¬ (k < -H ∨ 4000 * M - H < k) := by
          rw [strOk_heat hs] at hx
          have := inB_iff.1 hx
          omega
        exact key M (H + k) S G 0 (by simp [heatR, hs, hb]) (.inr ⟨hx, ⟨rfl, rfl, rfl, rfl⟩, rfl⟩)
end Go.Proofs.Ytenpbiineblcjaa
