/-
  Contract of package steam: Deepest. For every table and list of streams.
-/
import Derived.Test.YtenpbiineblcjaaSteamE
namespace Go.Proofs.Ytenpbiineblcjaa
open Go.RowKit Go.Shelf

/-- Nothing falls out of any stream at a level. -/
def safeAt (t : List RowT) (l : List StrT) (k : Nat) : Bool := l.all (fun s => decide ((flashOf (rowAt t k) s).scale = 0))
/-- From a level down, as far as it is safe. -/
def deepFrom (t : List RowT) (l : List StrT) : Nat → Nat
  | 0 => 0
  | k + 1 => if safeAt t l k then deepFrom t l k else k + 1
/-- Deepest: the level and the error. -/
def deepR (t : List RowT) (l : List StrT) : Int × Int :=
  if tabOk t = false then (0, 1) else if 40 < l.length then (0, 3) else if l.all strOk = false then (0, 1) else if l.length = 0 then (0, 1)
  else if deepFrom t l t.length = t.length then (0, 7) else (deepFrom t l t.length, 0)

theorem deepFrom_le (t : List RowT) (l : List StrT) : ∀ k, deepFrom t l k ≤ k
  | 0 => Nat.le_refl _
  | k + 1 => by
    unfold deepFrom
    split
    · have := deepFrom_le t l k; omega
    · omega

set_option maxHeartbeats 800000 in
/-- The literal in Deepest: does nothing fall out at the level below? -/
theorem asksDeep (A : Option Addr) (c : Nat) (t : List RowT) (k : Nat) (B0 B1 : Nat) (w : World) (ht : tabOk t = true) (hk : k < t.length) (hr : Rds eRow w w.heap.size A t)
    (h0 : w.cell? ⟨B0, 0, none⟩ = some (.slice A t.length c)) (b0 : B0 < w.heap.size) (h1 : w.cell? ⟨B1, 0, none⟩ = some (.int .i64 ((k : Int) + 1))) (b1 : B1 < w.heap.size) :
    Asks Try.prog 59 #[.pointer (some ⟨B0, 0, none⟩), .pointer (some ⟨B1, 0, none⟩)] eStr Vagg StrB (fun s => decide ((flashOf (rowAt t k) s).scale = 0)) w := by
  intro W s hs hb
  have hl := (tabOk_len ht).2
  have c0 := (hb.cell (p := ⟨B0, 0, none⟩) b0).trans h0
  have c1 := (hb.cell (p := ⟨B1, 0, none⟩) b1).trans h1
  have z0 : B0 < W.heap.size := Nat.lt_of_lt_of_le b0 hb.size
  have z1 : B1 < W.heap.size := Nat.lt_of_lt_of_le b1 hb.size
  have y0 : B0 < W.heap.size + 1 := by omega
  have y1 : B1 < W.heap.size + 1 := by omega
  have x0 : B0 < W.heap.size + 1 + 1 := by omega
  have x1 : B1 < W.heap.size + 1 + 1 := by omega
  have hrow : RowB (rowAt t k) := tabOk_row ht (rowAt_get (t := t) (level := k) (by omega) (by omega))
  have hat := hide (fun (V : World) (hV : Below W.heap.size W V) => at_any A c t k (by omega) (by omega) (by omega) V ((hr.later hb).later hV))
  have hof := hide (fun (V : World) => of_any (rowAt t k) s hrow hs V)
  have hw : IntKind.i64.wrap (k : Int) = k := by rw [IntKind.wrap_i64]; omega
  clear h0 h1 hr hrow ht hs
  generalize hp : flashOf (rowAt t k) s = p at *
  have HP := hide hp
  clear hp
  obtain ⟨⟨p1, p2, p3, p4⟩, ⟨p5, p6, p7, p8⟩, p9, pz⟩ := p
  have hfld : ∀ V, (Instr.field 44 (.agg #[.int .i64 p1, .int .i64 p2, .int .i64 p3, .int .i64 p4, .int .i64 p5, .int .i64 p6, .int .i64 p7, .int .i64 p8, .int .i64 p9, .int .i64 pz]) 3).run Try.prog V = .ok (.int .i64 pz) V := fun _ => by kernel_rfl
  obtain ⟨M, H, S, G⟩ := s
  change Calls Try.prog 59 #[.agg #[.int .i64 M, .int .i64 H, .int .i64 S, .int .i64 G], .pointer (some ⟨B0, 0, none⟩), .pointer (some ⟨B1, 0, none⟩)] W _
  go_enter Try.func59, Try.ntmps59
  go_wp2_with fail
  have hB0 : Below W.heap.size W (W.alloc (.cells #[.int .i64 M, .int .i64 H, .int .i64 S, .int .i64 G] 42)) := (Below.refl _ _).alloc (Nat.le_refl _) _
  go_region_held3 (fun V => V.cell? ⟨B0, 0, none⟩ = some (.slice A t.length c) ∧ V.cell? ⟨B1, 0, none⟩ = some (.int .i64 ((k : Int) + 1)) ∧ V.cell? ⟨W.heap.size, 0, none⟩ = some (.int .i64 M) ∧ V.cell? ⟨W.heap.size, 1, none⟩ = some (.int .i64 H) ∧ V.cell? ⟨W.heap.size, 2, none⟩ = some (.int .i64 S) ∧ V.cell? ⟨W.heap.size, 3, none⟩ = some (.int .i64 G)) (go_simp)
    (first
      | (go_at_call 60; refine (unhide hat _ hB0.drew).mono ?_; rintro e w4 ⟨rfl, q4, rfl⟩)
      | (go_at_call 61; refine (unhide hof _).mono ?_; rintro e w4 ⟨rfl, hb4⟩; obtain ⟨hc4, hf4⟩ := bcell hb4; have hBe : Below W.heap.size W w4 := (hB0.alloc hB0.size _).drew.trans (hb4.mono (by simp; omega))))
  go_wp2_with fail
  go_ret
  exact ⟨ret_bool (by rw [unhide HP]; rfl), hBe⟩

set_option maxHeartbeats 1600000 in
theorem deepest_any (A : Option Addr) (c : Nat) (t : List RowT) (A' : Option Addr) (c' : Nat) (l : List StrT) (hn : t.length ≤ 9223372036854775807) (hc : t.length ≤ c) (hn' : l.length ≤ 9223372036854775807) (w : World) (hr : Rds eRow w w.heap.size A t) (hr' : Rds eStr w w.heap.size A' l) :
    Calls Try.prog 18 #[.slice A t.length c, .slice A' l.length c'] w fun e w' => e = .returned (.tuple #[.int .i64 (deepR t l).1, .int .i64 (deepR t l).2]) ∧ Below w.heap.size w w' := by
  have hv := hide (fun (W : World) (hb : Below w.heap.size w W) => valid_any A c t hn hc W (hr.later hb))
  have hch := hide (fun (W : World) (hb : Below w.heap.size w W) => checked_any A' c' l hn' W (hr'.later hb))
  have HR := hide (And.intro hr hr')
  clear hr hr'
  cases ht : tabOk t with
  | false =>
    rw [ht] at hv
    have HF := Lib.hid (show deepR t l = (0, 1) by simp [deepR, ht])
    clear ht
    go_enter Try.func18, Try.ntmps18
    go_wp2_with (go_at_call 56; refine (unhide hv _ ((Below.refl _ _).alloc (Nat.le_refl _) _)).mono ?_; rintro e w1 ⟨rfl, hb1⟩; obtain ⟨u, rfl, r0, hb⟩ := new1 hb1; clear hb1; have z0 := r0.lt)
    go_ret2
    exact ⟨by rw [HF.out]; rfl, belowRow hb (Nat.le_refl _) _⟩
  | true =>
    rw [ht] at hv
    by_cases hbad : 40 < l.length ∨ l.all strOk = false ∨ l.length = 0
    · obtain ⟨er, he, her⟩ : ∃ er : Int, (if 40 < l.length then (3 : Int) else if l.all strOk then 0 else 1) = er ∧ ((er = 0 ∧ l.length = 0 ∧ deepR t l = (0, 1)) ∨ (er ≠ 0 ∧ deepR t l = (0, er))) := by
        refine ⟨_, rfl, ?_⟩
        by_cases h1 : 40 < l.length
        · exact .inr ⟨by rw [if_pos h1]; decide, by simp [deepR, ht, h1]⟩
        · by_cases h2 : l.all strOk = true
          · have h3 : l.length = 0 := by
              rcases hbad with h | h | h
              · exact absurd h h1
              · rw [h2] at h; cases h
              · exact h
            exact .inl ⟨by rw [if_neg h1, if_pos h2], h3, by simp only [deepR, ht, h2, h3]; simp⟩
          · simp only [Bool.not_eq_true] at h2
            exact .inr ⟨by rw [if_neg h1, h2]; decide, by simp [deepR, ht, h1, h2]⟩
      rw [he] at hch
      clear he hbad
      rcases her with ⟨rfl, h0, hd⟩ | ⟨hne, hd⟩
      · have HF := Lib.hid hd
        clear hd ht
        obtain rfl : l = [] := List.eq_nil_of_length_eq_zero h0
        simp only [List.length_nil] at hch h0
        show Calls Try.prog 18 #[.slice A t.length c, .slice A' 0 c'] w _
        clear h0 hn'
        go_enter Try.func18, Try.ntmps18
        go_wp2_with (first
          | (go_at_call 56; refine (unhide hv _ ((Below.refl _ _).alloc (Nat.le_refl _) _)).mono ?_; rintro e w1 ⟨rfl, hb1⟩; obtain ⟨u, rfl, r0, hb⟩ := new1 hb1; clear hb1; have z0 := r0.lt)
          | (go_at_call 57; refine (unhide hch _ (belowRow hb (Nat.le_refl _) _)).mono ?_; rintro e w2 ⟨rfl, hb2⟩; obtain ⟨u2, rfl, r2, hbb⟩ := again1 r0 hb (Nat.le_refl _) hb2; clear hb2; have z2 := r2.lt))
        go_ret2
        exact ⟨by rw [HF.out]; rfl, belowRow hbb (Nat.le_refl _) _⟩
      · have HF := Lib.hid hd
        clear hd ht
        have hne' : (er != 0) = true := by simpa using hne
        have HNE := hide hne
        clear hne
        go_enter Try.func18, Try.ntmps18
        go_wp2_with (first
          | (go_at_call 56; refine (unhide hv _ ((Below.refl _ _).alloc (Nat.le_refl _) _)).mono ?_; rintro e w1 ⟨rfl, hb1⟩; obtain ⟨u, rfl, r0, hb⟩ := new1 hb1; clear hb1; have z0 := r0.lt)
          | (go_at_call 57; refine (unhide hch _ (belowRow hb (Nat.le_refl _) _)).mono ?_; rintro e w2 ⟨rfl, hb2⟩; obtain ⟨u2, rfl, r2, hbb⟩ := again1 r0 hb (Nat.le_refl _) hb2; clear hb2; have z2 := r2.lt))
        go_ret2
        exact ⟨by rw [HF.out]; rfl, belowRow hbb (Nat.le_refl _) _⟩
    · obtain ⟨h40, hall, hne⟩ : ¬ 40 < l.length ∧ l.all strOk = true ∧ ¬ l.length = 0 := by
        refine ⟨fun h => hbad (.inl h), ?_, fun h => hbad (.inr (.inr h))⟩
        cases e : l.all strOk
        · exact absurd (.inr (.inl e)) hbad
        · rfl
      have hD : ∀ x ∈ l, StrB x := fun x hx => strOk_iff.1 (List.all_eq_true.1 hall x hx)
      have hdr : deepR t l = if deepFrom t l t.length = t.length then ((0, 7) : Int × Int) else (((deepFrom t l t.length : Nat) : Int), 0) := by simp only [deepR, ht, h40, hall, hne]; simp
      rw [if_neg h40, hall] at hch
      obtain ⟨l2, l20⟩ := tabOk_len ht
      have HH := hide (And.intro hdr (And.intro hD ht))
      have hl0 : 0 < l.length := by omega
      have hl0' : ((l.length : Int) == 0) = false := by simpa using hne
      have HL0 := hide hne
      clear hdr hD hbad h40 hall ht hne
      go_enter Try.func18, Try.ntmps18
      go_wp2_with (first
        | (go_at_call 56; refine (unhide hv _ ((Below.refl _ _).alloc (Nat.le_refl _) _)).mono ?_; rintro e w1 ⟨rfl, hb1⟩; obtain ⟨u, rfl, r0, hb⟩ := new1 hb1; clear hb1; have z0 := r0.lt)
        | (go_at_call 57; refine (unhide hch _ (belowRow hb (Nat.le_refl _) _)).mono ?_; rintro e w2 ⟨rfl, hb2⟩; obtain ⟨u2, rfl, r2, hbb⟩ := again1 r0 hb (Nat.le_refl _) hb2; clear hb2; have z2 := r2.lt))
      clear hv hch
      obtain ⟨LB, hLB⟩ : ∃ LB, LB = u2.heap.size := ⟨_, rfl⟩
      have hLw : w.heap.size < LB := by rw [hLB]; exact z2
      rw [← hLB]
      have hstart : ∃ v, (u2.setRow w.heap.size #[.slice A t.length c]).alloc (.cells #[.int .i64 (t.length : Int)] 3) = (v.setRow w.heap.size #[.slice A t.length c]).setRow LB #[.int .i64 (t.length : Int)] ∧ IsRow v w.heap.size ∧ IsRow v LB ∧ Below w.heap.size w v := by
        have h1 : RowIs ((u2.setRow w.heap.size #[.slice A t.length c]).alloc (.cells #[.int .i64 (t.length : Int)] 3)) w.heap.size #[.slice A t.length c] := (RowIs.same r2 _).alloc _
        have h2 : RowIs ((u2.setRow w.heap.size #[.slice A t.length c]).alloc (.cells #[.int .i64 (t.length : Int)] 3)) LB #[.int .i64 (t.length : Int)] := by
          have := RowIs.new (u2.setRow w.heap.size #[.slice A t.length c]) #[.int .i64 (t.length : Int)] 3
          rw [hLB]
          simpa using this
        exact graft2 (fun W => Below w.heap.size w W) h1 h2 ((belowRow hbb (Nat.le_refl _) _).alloc (by simpa using hbb.size) _)
      have HST := hide hstart
      clear hstart r0 r2 hb hbb z0 z2 hLB
      go_loopg [] t.length (fun gg wr => ∃ (k : Nat) (v : World), k ≤ t.length ∧ k ≤ gg ∧ wr = (v.setRow w.heap.size #[.slice A t.length c]).setRow LB #[.int .i64 (k : Int)] ∧ IsRow v w.heap.size ∧ IsRow v LB ∧ Aside (Below w.heap.size w v) ∧ Aside (deepFrom t l t.length = deepFrom t l k))
      case atStart =>
        obtain ⟨v, h1, h2, h3, h4⟩ := unhide HST
        exact ⟨t.length, v, Nat.le_refl _, Nat.le_refl _, h1, h2, h3, h4, rfl⟩
      case round =>
        obtain ⟨k, v, hk, hg, rfl, hv0, hv1, BV, E⟩ := hrel
        have hnn : w.heap.size ≠ LB := by omega
        have hnn' : LB ≠ w.heap.size := by omega
        have y0 := hv0.lt
        have y1 := hv1.lt
        rcases Nat.eq_zero_or_pos k with rfl | hpos
        · rw [show ((0 : Nat) : Int) = 0 from rfl]
          have hlen0 : ((0 : Int) == (t.length : Int)) = false := by simp; omega
          go_wp2_with fail
          go_ret2
          refine ⟨?_, belowRow (belowRow BV.out (Nat.le_refl _) _) (by omega) _⟩
          have e := E.out
          rw [(unhide HH).1, e]
          have : ¬ deepFrom t l 0 = t.length := by simp [deepFrom]; omega
          rw [if_neg this]
          simp [deepFrom]
        · obtain ⟨j, rfl⟩ : ∃ j, k = j + 1 := ⟨k - 1, by omega⟩
          rw [show ((j + 1 : Nat) : Int) = (j : Int) + 1 from rfl]
          obtain ⟨hr, hr'⟩ := unhide HR
          have eL : ∀ args w, (callFunc 59 args).run Try.prog w = .ok (.enter 59 args) w := enters_of Try.func59 (by kernel_rfl) rfl
          obtain ⟨W, hW⟩ : ∃ W, W = (v.setRow w.heap.size #[.slice A t.length c]).setRow LB #[.int .i64 ((j : Int) + 1)] := ⟨_, rfl⟩
          have hWB : Below w.heap.size w W := by rw [hW]; exact belowRow (belowRow BV.out (Nat.le_refl _) _) (by omega) _
          have ca : W.cell? ⟨w.heap.size, 0, none⟩ = some (.slice A t.length c) := by rw [hW]; go_simp
          have cb : W.cell? ⟨LB, 0, none⟩ = some (.int .i64 ((j : Int) + 1)) := by rw [hW]; go_simp
          have za : w.heap.size < W.heap.size := by rw [hW]; simpa using y0
          have zb : LB < W.heap.size := by rw [hW]; simpa using y1
          have hall := hide (allStr A' c' l StrB _ 59 _ eL W (hr'.later hWB) hn' (unhide HH).2.1 (asksDeep A c t j w.heap.size LB W (unhide HH).2.2 (by omega) (hr.later hWB) ca za cb zb))
          have ra : RowIs W w.heap.size #[.slice A t.length c] := by rw [hW]; exact (RowIs.same hv0 _).other hnn _
          have rb : RowIs W LB #[.int .i64 ((j : Int) + 1)] := by rw [hW]; exact RowIs.same (hv1.setRow _ _) _
          have HW := hide hW
          have HWB := hide hWB
          have hp0 : (0 : Int) < (j : Int) + 1 := by omega
          clear hr hr' eL ca cb hWB
          cases hs : safeAt t l j with
          | true =>
            have hs' : (l.all fun s => decide ((flashOf (rowAt t j) s).scale = 0)) = true := hs
            rw [hs'] at hall
            clear hs'
            have HS := hide hs
            clear hs
            go_wp2_with (go_at_call 58; rw [← unhide HW]; refine (unhide hall).mono ?_; rintro e w5 ⟨rfl, hb5⟩; obtain ⟨v5, rfl, h50, h51, hb55⟩ := regraft2 ra rb (unhide HWB) hb5; clear hb5; have y50 := h50.lt; have y51 := h51.lt)
            go_roundg j
            case measure => omega
            case rel => exact ⟨j, v5, by omega, by omega, rfl, h50, h51, hb55, by have := E.out; rw [deepFrom, unhide HS, if_pos rfl] at this; exact this⟩
          | false =>
            have hs' : (l.all fun s => decide ((flashOf (rowAt t j) s).scale = 0)) = false := hs
            rw [hs'] at hall
            clear hs'
            have HS := hide hs
            clear hs
            have hfin : deepFrom t l t.length = j + 1 := by have := E.out; rw [deepFrom, unhide HS, if_neg (by simp)] at this; exact this
            have hdr := (unhide HH).1
            rw [hfin] at hdr
            by_cases hjl : j + 1 = t.length
            · rw [if_pos hjl] at hdr
              have HDR := hide hdr
              clear hdr hfin
              have hq : ((j : Int) + 1 == (t.length : Int)) = true := by simp; omega
              go_wp2_with (go_at_call 58; rw [← unhide HW]; refine (unhide hall).mono ?_; rintro e w5 ⟨rfl, hb5⟩; obtain ⟨v5, rfl, h50, h51, hb55⟩ := regraft2 ra rb (unhide HWB) hb5; clear hb5; have y50 := h50.lt; have y51 := h51.lt)
              go_ret2
              exact ⟨by rw [unhide HDR]; rfl, belowRow (belowRow hb55 (Nat.le_refl _) _) (by omega) _⟩
            · rw [if_neg hjl] at hdr
              have HDR := hide hdr
              clear hdr hfin
              have hq : ((j : Int) + 1 == (t.length : Int)) = false := by simp; omega
              go_wp2_with (go_at_call 58; rw [← unhide HW]; refine (unhide hall).mono ?_; rintro e w5 ⟨rfl, hb5⟩; obtain ⟨v5, rfl, h50, h51, hb55⟩ := regraft2 ra rb (unhide HWB) hb5; clear hb5; have y50 := h50.lt; have y51 := h51.lt)
              go_ret2
              exact ⟨by rw [unhide HDR]; rfl, belowRow (belowRow hb55 (Nat.le_refl _) _) (by omega) _⟩
end Go.Proofs.Ytenpbiineblcjaa
