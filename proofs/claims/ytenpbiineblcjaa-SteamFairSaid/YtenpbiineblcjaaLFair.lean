/-
  The walk of SteamFair: it returns true for every stream and all weights, and leaves what lay as it lay.
-/
import Derived.Test.YtenpbiineblcjaaCopy
import Derived.Test.YtenpbiineblcjaaGenY
namespace Go.Proofs.Ytenpbiineblcjaa
open Go.RowKit Go.Shelf

theorem share_fair (M H S G : Int) (A : Option Addr) (c : Nat) (ws : List Int) (h : StrB ⟨M, H, S, G⟩) (hw : WtsB ws) (l1 l2 l3 : Int) (hl : lostL ⟨M, H, S, G⟩ ws = ⟨l1, l2, l3⟩) (w : World) (hr : Rds eInt w w.heap.size A ws) :
    Calls Try.prog 28 #[.agg #[.int .i64 M, .int .i64 H, .int .i64 S, .int .i64 G], .slice A ws.length c] w fun e w' => ∃ v, e = .returned (.tuple #[v, .agg #[.int .i64 l1, .int .i64 l2, .int .i64 l3], .int .i64 0]) ∧ FreshOf eStr w.heap.size w' v (partsL ⟨M, H, S, G⟩ ws) ∧ Below w.heap.size w w' := by
  have := share_ok ⟨M, H, S, G⟩ A c ws (by have := hw.len; omega) h hw w hr
  rw [hl] at this
  exact this
theorem checkStr_ok (M H S G : Int) (h : strOk ⟨M, H, S, G⟩ = true) (w : World) :
    Calls Try.prog 29 #[.agg #[.int .i64 M, .int .i64 H, .int .i64 S, .int .i64 G]] w fun e w' => e = .returned (.int .i64 0) ∧ ∃ o1 o2, (w.alloc o1).alloc o2 = w' := by
  have := checkStream_any ⟨M, H, S, G⟩ w
  rw [h] at this
  exact this
theorem sumStr_take_bd {s : StrT} {ws : List Int} (hs : StrB s) (hw : WtsB ws) (i : Nat) (hi : i ≤ ws.length) : StrIn 10000000000000 (sumStr ((partsL s ws).take i)) := by
  have hl : ((partsL s ws).take i).length ≤ 20 := by
    rw [List.length_take, (fair hs hw).len]
    have := hw.len
    omega
  have h := sumStr_in (l := (partsL s ws).take i) (c := 100000000000) (fun x hx => by
    have hx' := List.mem_of_mem_take hx
    unfold partsL at hx'
    obtain ⟨m, hm, rfl⟩ := List.mem_map.1 hx'
    have hb := massesL_bd hw hs.m0 m hm
    exact partOf_in hs hb.1 hb.2)
  unfold StrIn at *
  have : (100000000000 : Int) * ((partsL s ws).take i).length ≤ 10000000000000 := by omega
  omega



theorem rightWts_is (A : Option Addr) (c : Nat) (t : List Int) (b : Bool) (h : wtsOk t = b) (hn : t.length ≤ 9223372036854775807) (w : World) (hr : Rds eInt w w.heap.size A t) :
    Calls Try.prog 27 #[.slice A t.length c] w fun e w' => e = .returned (.bool b) ∧ w = w' := by
  subst h
  exact rightWts_any A c t hn w hr

/-- Append to nil: the world at hand under what is known. -/
theorem copy_at {ops : Array Oper} {rest : List Oper} {o : Oper} {a : Act} {Q : Exit → Act → World → Prop} {w : World} {K : World → Prop} (hk : KK K w) (hgd : o.guard = none) {s x : Operand}
    (ho : o.op = .call { callee := .builtin .append, args := #[s, x], argTypes := #[51, 51] }) (hs : a.eval s = .slice none 0 0)
    {A : Option Addr} {zs : List Int} {c : Nat} (hx : a.eval x = .slice A zs.length c) (hr : K w → Rds eInt w w.heap.size A zs) (hl : zs.length ≤ 10000000000000)
    (h : ∀ v' w', FreshOf eInt w.heap.size w' v' zs → Below w.heap.size w w' → K w → wpList Try.prog ops Q rest (a.put o.dst v') w') : wpList Try.prog ops Q (o :: rest) a w :=
  wpList_copy_ints hgd ho hs hx (hr hk.holds) hl fun v' w' h1 h2 => h v' w' h1 h2 hk.holds

set_option maxRecDepth 100000 in
set_option maxHeartbeats 6400000 in
theorem lawFair_any (s : StrT) (A : Option Addr) (c : Nat) (ws : List Int) (hn : ws.length ≤ 9223372036854775807) (w : World) (hr : Rds eInt w w.heap.size A ws) :
    Calls Try.prog 6 #[vStr s, .slice A ws.length c] w fun e w' => e = .returned (.bool true) ∧ Below w.heap.size w w' := by
  have HK : Hid (kAnd (kRds eInt A ws) (kUp w) w) := hide ⟨hr, Below.refl _ _⟩
  clear hr
  cases hs : strOk s with
  | false =>
    have HS := hide hs
    clear hs
    obtain ⟨M, H, S, G⟩ := s
    go_enter Try.func6, Try.ntmps6
    go_wp2_with (first | (go_at_call 17; refine know_at (by (repeat (first | exact kk (unhide HK) | apply kkbox | apply kkdrew | apply kkdrewN | apply kkalloc))) (fun hKa => ?_); (try simp only [World.size_alloc] at hKa); (try simp only [World.size_drew] at hKa); refine (awake_any _).mono ?_; rintro e w1 ⟨rfl, hb1⟩; have HK := hide (kafter hKa hb1); clear hKa hb1; have HC := ktells (unhide HK); (try dsimp only at HC)) | (go_at_call 24; refine (rightStr_is _ _ _ _ _ (unhide HS) _).mono ?_; rintro e w1 ⟨rfl, o1, rfl⟩) | (go_at_call 27; refine know_at (by (repeat (first | exact kk (unhide HK) | apply kkbox | apply kkdrew | apply kkdrewN | apply kkalloc))) (fun hKa => ?_); (try simp only [World.size_alloc] at hKa); (try simp only [World.size_drew] at hKa); refine (rightWts_is _ _ _ _ (unhide HW) (by omega) _ (by exact kget hKa (Below.refl _ _))).mono ?_; rintro e w1 ⟨rfl, rfl⟩; have HK := hide hKa; clear hKa))
    all_goals (go_ret; exact ⟨rfl, kup (unhide HK)⟩)
  | true =>
    have HS := hide hs
    cases hw : wtsOk ws with
    | false =>
      have HW := hide hw
      clear hs hw
      obtain ⟨M, H, S, G⟩ := s
      go_enter Try.func6, Try.ntmps6
      go_wp2_with (first | (go_at_call 17; refine know_at (by (repeat (first | exact kk (unhide HK) | apply kkbox | apply kkdrew | apply kkdrewN | apply kkalloc))) (fun hKa => ?_); (try simp only [World.size_alloc] at hKa); (try simp only [World.size_drew] at hKa); refine (awake_any _).mono ?_; rintro e w1 ⟨rfl, hb1⟩; have HK := hide (kafter hKa hb1); clear hKa hb1; have HC := ktells (unhide HK); (try dsimp only at HC)) | (go_at_call 24; refine (rightStr_is _ _ _ _ _ (unhide HS) _).mono ?_; rintro e w1 ⟨rfl, o1, rfl⟩) | (go_at_call 27; refine know_at (by (repeat (first | exact kk (unhide HK) | apply kkbox | apply kkdrew | apply kkdrewN | apply kkalloc))) (fun hKa => ?_); (try simp only [World.size_alloc] at hKa); (try simp only [World.size_drew] at hKa); refine (rightWts_is _ _ _ _ (unhide HW) (by omega) _ (by exact kget hKa (Below.refl _ _))).mono ?_; rintro e w1 ⟨rfl, rfl⟩; have HK := hide hKa; clear hKa))
      all_goals (go_ret; exact ⟨rfl, kup (unhide HK)⟩)
    | true =>
      have HW := hide hw
      have sb := strOk_iff.1 hs
      have wb := wtsOk_iff.1 hw
      have F := hide (fair sb wb)
      have HB := hide (And.intro sb wb)
      have hlen := wb.len
      obtain ⟨q0, q1⟩ := wb.whole
      have hlp := (unhide F).len
      have hpos : 0 < ws.length := by
        cases ws with
        | nil => simp [sumI] at q0
        | cons => simp
      obtain ⟨M, H, S, G⟩ := s
      obtain ⟨x0, x1, x2, x3, x4, x5, x6, x7⟩ := sb
      dsimp only at x0 x1 x2 x3 x4 x5 x6 x7
      obtain ⟨lo, hlo⟩ : ∃ lo, lostL ⟨M, H, S, G⟩ ws = lo := ⟨_, rfl⟩
      obtain ⟨l1, l2, l3⟩ := lo
      have HL := hide hlo
      clear hs hw wb hlo
      have HC := trivial
      go_enter Try.func6, Try.ntmps6
      go_upto_region 4 with (first | (go_at_call 17; refine know_at (by (repeat (first | exact kk (unhide HK) | apply kkbox | apply kkdrew | apply kkdrewN | apply kkalloc))) (fun hKa => ?_); (try simp only [World.size_alloc] at hKa); (try simp only [World.size_drew] at hKa); refine (awake_any _).mono ?_; rintro e w1 ⟨rfl, hb1⟩; have HK := hide (kafter hKa hb1); clear hKa hb1; have HC := ktells (unhide HK); (try dsimp only at HC)) | (go_at_call 24; refine (rightStr_is _ _ _ _ _ (unhide HS) _).mono ?_; rintro e w1 ⟨rfl, o1, rfl⟩) | (go_at_call 27; refine know_at (by (repeat (first | exact kk (unhide HK) | apply kkbox | apply kkdrew | apply kkdrewN | apply kkalloc))) (fun hKa => ?_); (try simp only [World.size_alloc] at hKa); (try simp only [World.size_drew] at hKa); refine (rightWts_is _ _ _ _ (unhide HW) (by omega) _ (by exact kget hKa (Below.refl _ _))).mono ?_; rintro e w1 ⟨rfl, rfl⟩; have HK := hide hKa; clear hKa) | (go_at_call 26; refine (mkStr_is _ _ _ _ _).mono ?_; rintro e w1 ⟨rfl, o1, o2, rfl⟩) | (at_builtin; refine copy_at (by (repeat (first | exact kk (unhide HK) | apply kkbox | apply kkdrew | apply kkdrewN | apply kkalloc))) rfl rfl rfl rfl (fun hKa => by exact kget hKa (Below.refl _ _)) (by omega) ?_; rintro v2 w1 ⟨A2, c2, rfl, hc2, hr1, -⟩ hb1 hKa; have HK := hide (kadd (F := kRds eInt A2 ws) (kafter hKa hb1) hr1); clear hKa hb1 hr1) | (go_at_call 28; refine know_at (by (repeat (first | exact kk (unhide HK) | apply kkbox | apply kkdrew | apply kkdrewN | apply kkalloc))) (fun hKa => ?_); (try simp only [World.size_alloc] at hKa); (try simp only [World.size_drew] at hKa); refine (share_fair _ _ _ _ _ _ ws (unhide HB).1 (unhide HB).2 _ _ _ (unhide HL) _ (by exact kget hKa (Below.refl _ _))).mono ?_; rintro e w1 ⟨v1, rfl, ⟨A3, c3, rfl, hc3, hr1, -⟩, hb1⟩; have HK := hide (kadd (F := kRds eStr A3 (partsL ⟨M, H, S, G⟩ ws)) (kafter hKa hb1) hr1); clear hKa hb1 hr1 HC; have HC := ktells (unhide HK); (try dsimp only at HC)))
      go_upto_region 6 with fail
      refine know_here (by (repeat (first | exact kk (unhide HK) | apply kkbox | apply kkdrew | apply kkdrewN | apply kkalloc))) ?_
      intro W5 hK5
      (try simp only [World.size_alloc] at hK5)
      have HK5 := hide hK5
      clear HC
      have HC := ktells hK5
      (try dsimp only at HC)
      clear hK5
      go_wp2_with fail
      go_loopg [9, 10] ws.length (fun gg s9 s10 wr => ∃ k : Nat, k ≤ ws.length ∧ ws.length - k ≤ gg ∧ s10 = .int .i64 k ∧ s9 = .int .i64 (sumI (ws.take k)) ∧ wr = W5.alloc (.cells #[.int .i64 0, .int .i64 0, .int .i64 0, .int .i64 0] 42))
      case atStart => exact ⟨0, Nat.zero_le _, by omega, rfl, rfl, rfl⟩
      case round =>
        obtain ⟨k, hk, hg, rfl, rfl, rfl⟩ := hrel
        by_cases hlt : k < ws.length
        · have hx : ws[k]? = some (ws[k]'hlt) := List.getElem?_eq_getElem _
          have hxa := (unhide HB).2.all _ (List.mem_of_getElem? hx)
          generalize ws[k]'hlt = x at hx hxa
          have hs2 := sumI_snoc (ws.take k) x
          have hs3 : ws.take (k + 1) = ws.take k ++ [x] := by rw [List.take_add_one, hx]; rfl
          have hb1 := sumI_nonneg (l := ws.take (k + 1)) (fun y hy => ((unhide HB).2.all y (List.mem_of_mem_take hy)).1)
          have hb2 := sumI_take_le (l := ws) (fun y hy => ((unhide HB).2.all y hy).1) (k + 1)
          have hb3 := sumI_nonneg (l := ws.take k) (fun y hy => ((unhide HB).2.all y (List.mem_of_mem_take hy)).1)
          obtain ⟨b, o, rfl, hb, d0⟩ := rdsInt (kbear (F := kRds eInt A ws) (unhide HK5)) hx
          rw [hs3, hs2] at hb1 hb2
          have HS3 := hide (show sumI (ws.take (k + 1)) = sumI (ws.take k) + x by rw [hs3, hs2])
          have hkn : (k : Int) < ws.length := by omega
          have hk0 : (0 : Int) ≤ (k : Int) := by omega
          clear hs2 hs3 hx
          generalize sumI (ws.take k) = q at *
          go_wp2_with fail
          go_roundg (ws.length - (k + 1))
          case measure => omega
          case rel => exact ⟨k + 1, by omega, by omega, by go_num, by rw [unhide HS3], rfl⟩
        · obtain rfl : k = ws.length := by omega
          rw [List.take_length]
          obtain ⟨qq, hqq⟩ : ∃ qq, qq = sumI ws := ⟨_, rfl⟩
          have HQ := hide hqq
          rw [← hqq] at q0 q1 ⊢
          clear hqq
          go_wp2_with fail
          go_loopg [11] ws.length (fun gg s11 wr => ∃ i : Nat, i ≤ ws.length ∧ ws.length - i ≤ gg ∧ s11 = .int .i64 i ∧ Aside (Below W5.heap.size W5 wr) ∧ Aside (RowIs wr W5.heap.size (cStr (sumStr ((partsL ⟨M, H, S, G⟩ ws).take i)))))
          case atStart => exact ⟨0, Nat.zero_le _, by omega, rfl, Below.allocs (Below.refl _ _) _, RowIs.new _ _ _⟩
          case round =>
            obtain ⟨i, hi, hgi, rfl, BW, RW⟩ := hrel
            by_cases hil : i < ws.length
            · have hx : ws[i]? = some (ws[i]'hil) := List.getElem?_eq_getElem _
              have hxa := (unhide HB).2.all _ (List.mem_of_getElem? hx)
              generalize ws[i]'hil = x at hx hxa
              have hp : (partsL ⟨M, H, S, G⟩ ws)[i]? = some ((partsL ⟨M, H, S, G⟩ ws)[i]'(by omega)) := List.getElem?_eq_getElem _
              generalize (partsL ⟨M, H, S, G⟩ ws)[i]'(by omega) = p at hp
              obtain ⟨ok, f1, f2⟩ := (unhide F).each i x p hx hp
              rw [← unhide HQ] at f1 f2
              have pb := strOk_iff.1 ok
              have hbd := sumStr_take_bd (unhide HB).1 (unhide HB).2 i hi
              have HN := hide (show sumStr ((partsL ⟨M, H, S, G⟩ ws).take (i + 1)) = addStr (sumStr ((partsL ⟨M, H, S, G⟩ ws).take i)) p by rw [List.take_add_one, hp]; exact sumStr_snoc _ _)
              obtain ⟨b, o, e1, hb, d0⟩ := rdsInt (kbear (F := kRds eInt A ws) (unhide HK5)) hx
              obtain ⟨b', o', e2, hb', f3, f4, f5, f6⟩ := rdsStr (kbear (F := kRds eStr A3 (partsL ⟨M, H, S, G⟩ ws)) (unhide HK5)) hp
              subst e1
              subst e2
              have OK := hide ok
              clear hx hp ok
              obtain ⟨p1, p2, p3, p4⟩ := p
              obtain ⟨y0, y1, y2, y3, y4, y5, y6, y7⟩ := pb
              dsimp only at y0 y1 y2 y3 y4 y5 y6 y7 f1 f2 f3 f4 f5 f6 HN
              have HKbase := hide (p := kAnd (kC b (o + i) (.int .i64 x)) (kAnd (kC b' (o' + i * 4) (.int .i64 p1)) (kAnd (kC b' (o' + i * 4 + 1) (.int .i64 p2)) (kAnd (kC b' (o' + i * 4 + 2) (.int .i64 p3)) (kAnd (kC b' (o' + i * 4 + 3) (.int .i64 p4)) _)))) W5) ⟨⟨d0, hb⟩, ⟨f3, hb'⟩, ⟨f4, hb'⟩, ⟨f5, hb'⟩, ⟨f6, hb'⟩, unhide HK5⟩
              generalize hsum : sumStr ((partsL ⟨M, H, S, G⟩ ws).take i) = ss at *
              obtain ⟨t1, t2, t3, t4⟩ := ss
              have HK := hide (p := kAnd (kRow W5.heap.size #[.int .i64 t1, .int .i64 t2, .int .i64 t3, .int .i64 t4]) (kAnd (kUp W5) _) wr) ⟨RW.out, BW.out, kafter (unhide HKbase) BW.out⟩
              unfold StrIn at hbd
              dsimp only at hbd
              obtain ⟨z0, z1, z2, z3, z4, z5, z6, z7⟩ := hbd
              have HSM := hide hsum
              clear hsum d0 f3 f4 f5 f6
              have m1 := mul_bd (a := p1) (b := qq) (A := 1000000) (B := 20000) y0 y1 (by omega) (by omega)
              have m2 := mul_bd (a := M) (b := x) (A := 1000000) (B := 1000) x0 x1 hxa.1 hxa.2
              have j1 : decide (p1 * qq - M * x ≤ -qq) = false := decide_eq_false (by omega)
              have j2 : decide (qq ≤ p1 * qq - M * x) = false := decide_eq_false (by omega)
              have hil' : (i : Int) < ws.length := by omega
              have hi0 : (0 : Int) ≤ (i : Int) := by omega
              go_upto_region 15 with fail
              refine know_here (by (repeat (first | exact kk (unhide HK) | apply kkbox | apply kkdrew | apply kkdrewN | apply kkalloc))) ?_
              intro V15 hKA
              (try simp only [World.size_alloc] at hKA)
              (try simp only [World.size_drew] at hKA)
              have HKA := hide hKA
              have HCA := ktells hKA
              (try dsimp only at HCA)
              refine Gen.begin_ [] 16 (by kernel_rfl) hKA (by rfl) ⟨fun x hx => absurd hx (by simp), by kernel_rfl, fun _ _ _ _ _ => Iff.rfl⟩ (fun okA => ?_)
              clear hKA
              refine Gen.take 0 (v := ?vv1) okA (by simp only [List.getElem?_toArray, List.getElem?_cons_zero]; rfl) (by kernel_rfl) (by kernel_rfl) (by kernel_rfl) (Or.inl ⟨by rfl, ?hh1⟩) ?_
              case hh1 => (intro wg hSw; have hc := ktells hSw; (try dsimp only at hc); go_simp; try with_reducible rfl)
              (try simp only [Act.put, List.setIfInBounds_toArray, List.set_cons_zero, List.set_cons_succ])
              refine Gen.take 1 (v := ?vv2) okA (by simp only [List.getElem?_toArray, List.getElem?_cons_zero, List.getElem?_cons_succ]; rfl) (by kernel_rfl) (by kernel_rfl) (by kernel_rfl) (Or.inl ⟨by rfl, ?hh2⟩) ?_
              case hh2 => (intro wg hSw; have hc := ktells hSw; (try dsimp only at hc); go_simp; try with_reducible rfl)
              (try simp only [Act.put, List.setIfInBounds_toArray, List.set_cons_zero, List.set_cons_succ])
              refine Gen.take 2 (v := ?vv3) okA (by simp only [List.getElem?_toArray, List.getElem?_cons_zero, List.getElem?_cons_succ]; rfl) (by kernel_rfl) (by kernel_rfl) (by kernel_rfl) (Or.inl ⟨by rfl, ?hh3⟩) ?_
              case hh3 => (intro wg hSw; have hc := ktells hSw; (try dsimp only at hc); go_simp; try with_reducible rfl)
              (try simp only [Act.put, List.setIfInBounds_toArray, List.set_cons_zero, List.set_cons_succ])
              refine Gen.take 3 (v := ?vv4) okA (by simp only [List.getElem?_toArray, List.getElem?_cons_zero, List.getElem?_cons_succ]; rfl) (by kernel_rfl) (by kernel_rfl) (by kernel_rfl) (Or.inl ⟨by rfl, ?hh4⟩) ?_
              case hh4 => (intro wg hSw; have hc := ktells hSw; (try dsimp only at hc); go_simp; try with_reducible rfl)
              (try simp only [Act.put, List.setIfInBounds_toArray, List.set_cons_zero, List.set_cons_succ])
              refine Gen.take 4 (v := ?vv5) okA (by simp only [List.getElem?_toArray, List.getElem?_cons_zero, List.getElem?_cons_succ]; rfl) (by kernel_rfl) (by kernel_rfl) (by kernel_rfl) (Or.inl ⟨by rfl, ?hh5⟩) ?_
              case hh5 => (intro wg hSw; have hc := ktells hSw; (try dsimp only at hc); go_simp; try with_reducible rfl)
              (try simp only [Act.put, List.setIfInBounds_toArray, List.set_cons_zero, List.set_cons_succ])
              refine Gen.take 5 (v := ?vv6) okA (by simp only [List.getElem?_toArray, List.getElem?_cons_zero, List.getElem?_cons_succ]; rfl) (by kernel_rfl) (by kernel_rfl) (by kernel_rfl) (Or.inl ⟨by rfl, ?hh6⟩) ?_
              case hh6 => (intro wg hSw; have hc := ktells hSw; (try dsimp only at hc); go_simp; try with_reducible rfl)
              (try simp only [Act.put, List.setIfInBounds_toArray, List.set_cons_zero, List.set_cons_succ])
              refine Gen.take 6 (v := ?vv7) okA (by simp only [List.getElem?_toArray, List.getElem?_cons_zero, List.getElem?_cons_succ]; rfl) (by kernel_rfl) (by kernel_rfl) (by kernel_rfl) (Or.inl ⟨by rfl, ?hh7⟩) ?_
              case hh7 => (intro wg hSw; have hc := ktells hSw; (try dsimp only at hc); go_simp; try with_reducible rfl)
              (try simp only [Act.put, List.setIfInBounds_toArray, List.set_cons_zero, List.set_cons_succ])
              refine Gen.take 7 (v := ?vv8) okA (by simp only [List.getElem?_toArray, List.getElem?_cons_zero, List.getElem?_cons_succ]; rfl) (by kernel_rfl) (by kernel_rfl) (by kernel_rfl) (Or.inl ⟨by rfl, ?hh8⟩) ?_
              case hh8 => (intro wg hSw; have hc := ktells hSw; (try dsimp only at hc); go_simp; try with_reducible rfl)
              (try simp only [Act.put, List.setIfInBounds_toArray, List.set_cons_zero, List.set_cons_succ])
              refine Gen.take 8 (v := ?vv9) okA (by simp only [List.getElem?_toArray, List.getElem?_cons_zero, List.getElem?_cons_succ]; rfl) (by kernel_rfl) (by kernel_rfl) (by kernel_rfl) (Or.inl ⟨by rfl, ?hh9⟩) ?_
              case hh9 => (intro wg hSw; have hc := ktells hSw; (try dsimp only at hc); go_simp; try with_reducible rfl)
              (try simp only [Act.put, List.setIfInBounds_toArray, List.set_cons_zero, List.set_cons_succ])
              refine Gen.take 9 (v := ?vv10) okA (by simp only [List.getElem?_toArray, List.getElem?_cons_zero, List.getElem?_cons_succ]; rfl) (by kernel_rfl) (by kernel_rfl) (by kernel_rfl) (Or.inl ⟨by rfl, ?hh10⟩) ?_
              case hh10 => (intro wg hSw; have hc := ktells hSw; (try dsimp only at hc); go_simp; try with_reducible rfl)
              (try simp only [Act.put, List.setIfInBounds_toArray, List.set_cons_zero, List.set_cons_succ])
              refine Gen.take 10 (v := ?vv11) okA (by simp only [List.getElem?_toArray, List.getElem?_cons_zero, List.getElem?_cons_succ]; rfl) (by kernel_rfl) (by kernel_rfl) (by kernel_rfl) (Or.inl ⟨by rfl, ?hh11⟩) ?_
              case hh11 => (intro wg hSw; have hc := ktells hSw; (try dsimp only at hc); go_simp; try with_reducible rfl)
              (try simp only [Act.put, List.setIfInBounds_toArray, List.set_cons_zero, List.set_cons_succ])
              refine Gen.take 11 (v := ?vv12) okA (by simp only [List.getElem?_toArray, List.getElem?_cons_zero, List.getElem?_cons_succ]; rfl) (by kernel_rfl) (by kernel_rfl) (by kernel_rfl) (Or.inl ⟨by rfl, ?hh12⟩) ?_
              case hh12 => (intro wg hSw; have hc := ktells hSw; (try dsimp only at hc); go_simp; try with_reducible rfl)
              (try simp only [Act.put, List.setIfInBounds_toArray, List.set_cons_zero, List.set_cons_succ])
              refine Gen.take 12 (v := ?vv13) okA (by simp only [List.getElem?_toArray, List.getElem?_cons_zero, List.getElem?_cons_succ]; rfl) (by kernel_rfl) (by kernel_rfl) (by kernel_rfl) (Or.inl ⟨by rfl, ?hh13⟩) ?_
              case hh13 => (intro wg hSw; have hc := ktells hSw; (try dsimp only at hc); go_simp; try with_reducible rfl)
              (try simp only [Act.put, List.setIfInBounds_toArray, List.set_cons_zero, List.set_cons_succ])
              refine Gen.take 13 (v := ?vv14) okA (by simp only [List.getElem?_toArray, List.getElem?_cons_zero, List.getElem?_cons_succ]; rfl) (by kernel_rfl) (by kernel_rfl) (by kernel_rfl) (Or.inl ⟨by rfl, ?hh14⟩) ?_
              case hh14 => (intro wg hSw; have hc := ktells hSw; (try dsimp only at hc); go_simp; try with_reducible rfl)
              (try simp only [Act.put, List.setIfInBounds_toArray, List.set_cons_zero, List.set_cons_succ])
              refine Gen.take 14 (v := ?vv15) okA (by simp only [List.getElem?_toArray, List.getElem?_cons_zero, List.getElem?_cons_succ]; rfl) (by kernel_rfl) (by kernel_rfl) (by kernel_rfl) (Or.inl ⟨by rfl, ?hh15⟩) ?_
              case hh15 => (intro wg hSw; have hc := ktells hSw; (try dsimp only at hc); go_simp; try with_reducible rfl)
              (try simp only [Act.put, List.setIfInBounds_toArray, List.set_cons_zero, List.set_cons_succ])
              refine Gen.finish inferInstance Gen.size okA (by kernel_rfl) inferInstance (by simp) ?_
              simp only [Gen.Fin]
              intro  wf hKf hSf
              have hup := hSf.1
              clear hKf hSf
              refine Gen.one 15 (by kernel_rfl) (wpOp_of (by simp only [List.getElem?_toArray, List.getElem?_cons_zero, List.getElem?_cons_succ]; rfl) (by rfl) ?_)
              go_simp
              (try simp only [Act.put, List.setIfInBounds_toArray, List.set_cons_zero, List.set_cons_succ])
              refine ⟨⟨hup, kafter (unhide HKA) hup⟩, ?_⟩
              refine Gen.done (by kernel_rfl) (kafter (unhide HKA) hup) (fun WA hKA => ?_) _
              clear okA hup 
              have HK := hide hKA
              have HC := ktells hKA
              (try dsimp only at HC)
              clear hKA
              go_upto_region 18 with (go_at_call 29; refine (checkStr_ok _ _ _ _ (unhide OK) _).mono ?_; rintro e w1 ⟨rfl, o1, o2, rfl⟩)
              refine know_here (by (repeat (first | exact kk (unhide HK) | apply kkbox | apply kkdrew | apply kkdrewN | apply kkalloc))) ?_
              intro V18 hKB
              (try simp only [World.size_alloc] at hKB)
              (try simp only [World.size_drew] at hKB)
              have HKB := hide hKB
              have HCB := ktells hKB
              (try dsimp only at HCB)
              refine Gen.beginS (b0 := 0) (S := kAnd (kUp W5) _) (K := kAnd (kRow (W5.heap.size) #[.int .i64 t1, .int .i64 t2, .int .i64 t3, .int .i64 t4]) (kAnd (kUp W5) _)) [] 7 (by kernel_rfl) ⟨kbear hKB, kafter (unhide HKbase) (kbear (F := kUp W5) hKB)⟩ ⟨kbear hKB, kbear hKB, kafter (unhide HKbase) (kbear (F := kUp W5) hKB)⟩ (by rfl) ⟨fun x hx => absurd hx (by simp), by kernel_rfl, fun _ _ _ _ _ => Iff.rfl⟩ (fun okB => ?_)
              clear hKB
              refine Gen.take 1 (v := ?vv16) okB (by simp only [List.getElem?_toArray, List.getElem?_cons_zero, List.getElem?_cons_succ]; rfl) (by kernel_rfl) (by kernel_rfl) (by kernel_rfl) (Or.inl ⟨by rfl, ?hh16⟩) ?_
              case hh16 => (intro wg hSw; have hc := ktells hSw; (try dsimp only at hc); go_simp; try with_reducible rfl)
              (try simp only [Act.put, List.setIfInBounds_toArray, List.set_cons_zero, List.set_cons_succ])
              refine Gen.take 2 (v := ?vv17) okB (by simp only [List.getElem?_toArray, List.getElem?_cons_zero, List.getElem?_cons_succ]; rfl) (by kernel_rfl) (by kernel_rfl) (by kernel_rfl) (Or.inl ⟨by rfl, ?hh17⟩) ?_
              case hh17 => (intro wg hSw; have hc := ktells hSw; (try dsimp only at hc); go_simp; try with_reducible rfl)
              (try simp only [Act.put, List.setIfInBounds_toArray, List.set_cons_zero, List.set_cons_succ])
              refine Gen.take 3 (v := ?vv18) okB (by simp only [List.getElem?_toArray, List.getElem?_cons_zero, List.getElem?_cons_succ]; rfl) (by kernel_rfl) (by kernel_rfl) (by kernel_rfl) (Or.inl ⟨by rfl, ?hh18⟩) ?_
              case hh18 => (intro wg hSw; have hc := ktells hSw; (try dsimp only at hc); go_simp; try with_reducible rfl)
              (try simp only [Act.put, List.setIfInBounds_toArray, List.set_cons_zero, List.set_cons_succ])
              refine Gen.take 4 (v := ?vv19) okB (by simp only [List.getElem?_toArray, List.getElem?_cons_zero, List.getElem?_cons_succ]; rfl) (by kernel_rfl) (by kernel_rfl) (by kernel_rfl) (Or.inl ⟨by rfl, ?hh19⟩) ?_
              case hh19 => (intro wg hSw; have hc := ktells hSw; (try dsimp only at hc); go_simp; try with_reducible rfl)
              (try simp only [Act.put, List.setIfInBounds_toArray, List.set_cons_zero, List.set_cons_succ])
              refine Gen.step inferInstance (fun _ _ => Nat.zero_le _) 0 okB (by kernel_rfl) inferInstance (by simp) (fun wg hKg hSg => wpOp_of (by simp only [List.getElem?_toArray, List.getElem?_cons_zero]; rfl) (by rfl) ?_)
              have hc := ktells hKg
              (try dsimp only at hc)
              go_simp
              (try simp only [Act.put, List.setIfInBounds_toArray, List.set_cons_zero, List.set_cons_succ])
              refine Gen.stay rfl hKg (Below.refl _ _) ?_
              clear hc hKg hSg
              refine Gen.step inferInstance (fun _ _ => Nat.zero_le _) 5 okB (by kernel_rfl) inferInstance (by simp) (fun wg hKg hSg => wpOp_of (by simp only [List.getElem?_toArray, List.getElem?_cons_zero, List.getElem?_cons_succ]; rfl) (by rfl) ?_)
              go_simp
              refine (plus_is _ _ _ _ _ _ _ _ _ (by refine ⟨?_, ?_, ?_, ?_, ?_, ?_, ?_, ?_⟩ <;> omega) (by refine ⟨?_, ?_, ?_, ?_, ?_, ?_, ?_, ?_⟩ <;> omega)).mono ?_
              rintro e wh ⟨rfl, hb1⟩
              (try dsimp only)
              refine Gen.stay rfl hKg hb1 ?_
              clear hKg hSg
              clear hb1
              refine Gen.finish inferInstance (fun _ _ => Nat.zero_le _) okB (by kernel_rfl) inferInstance (by simp) ?_
              simp only [Gen.Fin]
              intro  wf hKf hSf
              obtain ⟨wu, rfl, hgY, hup⟩ := graft1 (fun W => Below W5.heap.size W5 W) (kbear (F := kRow (W5.heap.size) #[.int .i64 t1, .int .i64 t2, .int .i64 t3, .int .i64 t4]) hKf) (kbear (F := kUp W5) hKf)
              clear hKf hSf
              refine Gen.one 6 (by kernel_rfl) (wpOp_of (by simp only [List.getElem?_toArray, List.getElem?_cons_zero, List.getElem?_cons_succ]; rfl) (by rfl) ?_)
              go_simp
              (try simp only [Act.put, List.setIfInBounds_toArray, List.set_cons_zero, List.set_cons_succ])
              refine ⟨⟨(belowRow hup (by omega) _), kafter (unhide HKbase) (belowRow hup (by omega) _)⟩, ?_⟩
              refine Gen.done (K := kAnd (kRow (W5.heap.size) _) (kAnd (kUp W5) _)) (by kernel_rfl) ⟨RowIs.same hgY _, (belowRow hup (by omega) _), kafter (unhide HKbase) (belowRow hup (by omega) _)⟩ (fun WB hKB => ?_) _
              clear okB hup hgY
              have HK := hide hKB
              have HC := ktells hKB
              (try dsimp only at HC)
              clear hKB
              go_wp2_with fail
              go_roundg (ws.length - (i + 1))
              case measure => omega
              case rel =>
                refine ⟨i + 1, by omega, by omega, by go_num, (show Aside _ from kbear (F := kUp W5) (unhide HK)), (show Aside _ from ?_)⟩
                rw [unhide HN]
                exact (unhide HK).1
            · obtain rfl : i = ws.length := by omega
              have hrow := RW.out
              rw [List.take_of_length_le (by omega)] at hrow
              have e1 := (unhide F).mass
              have e2 := (unhide F).heat
              have e3 := (unhide F).sil
              have e4 := (unhide F).gas
              have e5 := (unhide F).lost
              rw [unhide HL] at e2 e3 e4 e5
              generalize sumStr (partsL ⟨M, H, S, G⟩ ws) = ss at *
              obtain ⟨t1, t2, t3, t4⟩ := ss
              dsimp only at e1 e2 e3 e4 e5
              have HK := hide (p := kAnd (kRow W5.heap.size #[.int .i64 t1, .int .i64 t2, .int .i64 t3, .int .i64 t4]) (kAnd (kUp W5) _) wr) ⟨hrow, BW.out, kafter (unhide HK5) BW.out⟩
              have HC := ktells (unhide HK)
              (try dsimp only at HC)
              have j1 : (t1 == M) = true := beq_iff_eq.2 e1
              have j2 : (t2 + l1 == H) = true := beq_iff_eq.2 e2
              have j3 : (t3 + l2 == S) = true := beq_iff_eq.2 e3
              have j4 : (t4 + l3 == G) = true := beq_iff_eq.2 e4
              have i1 : 0 ≤ t2 + l1 ∧ t2 + l1 ≤ 9000000000000 := by omega
              have i2 : 0 ≤ t3 + l2 ∧ t3 + l2 ≤ 9000000000000 := by omega
              have i3 : 0 ≤ t4 + l3 ∧ t4 + l3 ≤ 9000000000000 := by omega
              clear e1 e2 e3 e4 hrow
              by_cases hM : M = 0
              · have j5 : (M == 0) = true := beq_iff_eq.2 hM
                clear hM e5
                go_wp2_with (first | (go_at_call 17; refine know_at (by (repeat (first | exact kk (unhide HK) | apply kkbox | apply kkdrew | apply kkdrewN | apply kkalloc))) (fun hKa => ?_); (try simp only [World.size_alloc] at hKa); (try simp only [World.size_drew] at hKa); refine (awake_any _).mono ?_; rintro e w1 ⟨rfl, hb1⟩; have HK := hide (kafter hKa hb1); clear hKa hb1; have HC := ktells (unhide HK); (try dsimp only at HC)) | (go_at_call 31; refine (refIn_any _ _ _ _).mono ?_; rintro e w2 ⟨rfl, rfl⟩))
                all_goals (go_ret; exact ⟨rfl, kup (unhide HK)⟩)
              · have j5 : (M == 0) = false := beq_eq_false_iff_ne.2 hM
                obtain ⟨n1, n2, n3⟩ := e5.resolve_left hM
                clear hM e5
                go_wp2_with (first | (go_at_call 17; refine know_at (by (repeat (first | exact kk (unhide HK) | apply kkbox | apply kkdrew | apply kkdrewN | apply kkalloc))) (fun hKa => ?_); (try simp only [World.size_alloc] at hKa); (try simp only [World.size_drew] at hKa); refine (awake_any _).mono ?_; rintro e w1 ⟨rfl, hb1⟩; have HK := hide (kafter hKa hb1); clear hKa hb1; have HC := ktells (unhide HK); (try dsimp only at HC)) | (go_at_call 31; refine (refIn_any _ _ _ _).mono ?_; rintro e w2 ⟨rfl, rfl⟩))
                all_goals (go_ret; exact ⟨rfl, kup (unhide HK)⟩)
end Go.Proofs.Ytenpbiineblcjaa
