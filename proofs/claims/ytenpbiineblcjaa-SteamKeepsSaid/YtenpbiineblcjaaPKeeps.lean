/-
  The statement on what is kept: the extracted law returns true for every input. No conditions.
-/
import Derived.Test.YtenpbiineblcjaaX7
import Derived.Test.YtenpbiineblcjaaPFla
namespace Go.Proofs.Ytenpbiineblcjaa
open Go.RowKit

/-! streams -/
theorem badStr_loop (N : Nat) (t : List GStream) (k : Unit → Option Int) (hl : t.length ≤ 1000) : ∀ (n i : Nat), (t.drop i).length < n → i ≤ t.length →
    slices_IndexFunc_steam_Stream_steam_StreamX_1_loop1 N t k n i = bif (t.drop i).all strB then k () else some ((i : Int) + ((t.drop i).findIdx fun r => !strB r : Nat)) := by
  intro n
  induction n with
  | zero => intro i h; omega
  | succ n ih =>
    intro i h hi
    unfold slices_IndexFunc_steam_Stream_steam_StreamX_1_loop1
    cases hd : t.drop i with
    | nil =>
      have := drop_nil hd
      rw [show (decide ((i : Int) < (t.length : Int))) = false by simp; omega]
      rfl
    | cons a l =>
      obtain ⟨h1, h2, h3⟩ := drop_cons hd
      rw [show (decide ((i : Int) < (t.length : Int))) = true by simp; omega]
      simp only [cond_true, getI_at h1, Option.bind_some, steam_all_steam_Stream_1X_1, validStream_eq]
      cases hr : strB a with
      | false => simp [hr, List.findIdx_cons]
      | true =>
        have e : w64 ((i : Int) + 1) = ((i + 1 : Nat) : Int) := by rw [w64_id] <;> omega
        rw [e]
        have := ih (i + 1) (by rw [h2]; rw [hd] at h; simpa using h) (by omega)
        simp only [Bool.not_true, cond_false, this, h2, List.all_cons, hr, Bool.true_and, List.findIdx_cons]
        congr 2
        push_cast
        omega
theorem allStr_eq {N : Nat} {t : List GStream} (hl : t.length ≤ 1000) (hN : 1001 ≤ N) : steam_all_steam_StreamX_1 N t = some (t.all strB) := by
  have := badStr_loop N t (fun _ => some (-1)) hl N 0 (by simp; omega) (Nat.zero_le _)
  rw [show ((0 : Nat) : Int) = 0 from rfl, List.drop_zero] at this
  unfold steam_all_steam_StreamX_1 slices_ContainsFunc_steam_Stream_steam_StreamX_1 slices_IndexFunc_steam_Stream_steam_StreamX_1 joinK
  dsimp only
  rw [this]
  cases h : t.all strB with
  | true => simp
  | false => simp
theorem streams_loop (N : Nat) (t : List GStream) (k : Unit → Option Bool) (hl : t.length ≤ 1000) : ∀ (n i : Nat), (t.drop i).length < n → i ≤ t.length →
    ref01_StreamsX_loop1 N t k n i = bif (t.drop i).all strB then k () else some false := by
  intro n
  induction n with
  | zero => intro i h; omega
  | succ n ih =>
    intro i h hi
    unfold ref01_StreamsX_loop1
    cases hd : t.drop i with
    | nil =>
      have := drop_nil hd
      rw [show (decide ((i : Int) < (t.length : Int))) = false by simp; omega]
      rfl
    | cons a l =>
      obtain ⟨h1, h2, h3⟩ := drop_cons hd
      rw [show (decide ((i : Int) < (t.length : Int))) = true by simp; omega]
      simp only [cond_true, getI_at h1, Option.bind_some, rightStream_eq]
      cases hr : strB a with
      | false => simp [hr]
      | true =>
        have e : w64 ((i : Int) + 1) = ((i + 1 : Nat) : Int) := by rw [w64_id] <;> omega
        rw [e]
        have := ih (i + 1) (by rw [h2]; rw [hd] at h; simpa using h) (by omega)
        simp only [Bool.not_true, cond_false, this, h2, List.all_cons, hr, Bool.true_and]
theorem streams_eq {N : Nat} {t : List GStream} (hl : t.length ≤ 1000) (hN : 1001 ≤ N) : ref01_StreamsX N t = some (t.all strB) := by
  have := streams_loop N t (fun _ => some true) hl N 0 (by simp; omega) (Nat.zero_le _)
  rw [show ((0 : Nat) : Int) = 0 from rfl, List.drop_zero] at this
  unfold ref01_StreamsX joinK
  dsimp only
  rw [this]
  cases h : t.all strB <;> rfl
theorem copyStr_loop (N : Nat) (t : List GStream) (k : List GStream → Option (List GStream)) (hl : t.length ≤ 1000) : ∀ (n i : Nat) (acc : List GStream), (t.drop i).length < n → i ≤ t.length → acc.length = i →
    law01_StreamsX_loop1 N t k n acc i = k (acc ++ t.drop i) := by
  intro n
  induction n with
  | zero => intro i acc h; omega
  | succ n ih =>
    intro i acc h hi ha
    unfold law01_StreamsX_loop1
    cases hd : t.drop i with
    | nil =>
      have := drop_nil hd
      rw [show (decide ((i : Int) < (t.length : Int))) = false by simp; omega]
      simp
    | cons a l =>
      obtain ⟨h1, h2, h3⟩ := drop_cons hd
      rw [show (decide ((i : Int) < (t.length : Int))) = true by simp; omega]
      have e : w64 ((i : Int) + 1) = ((i + 1 : Nat) : Int) := by rw [w64_id] <;> omega
      have hc : decide ((acc.length + [a].length) * 32 ≤ 140737488355328) = true := by simp; omega
      simp only [cond_true, getI_at h1, Option.bind_some, e, stream_eq, hc, chk]
      rw [ih (i + 1) _ (by rw [h2]; rw [hd] at h; simpa using h) (by omega) (by simp [ha]), h2]
      simp
theorem copyStr_eq {N : Nat} {t : List GStream} (hl : t.length ≤ 1000) (hN : 1001 ≤ N) : law01_StreamsX N t = some t := by
  have := copyStr_loop N t (fun y => some y) hl N 0 [] (by simp; omega) (Nat.zero_le _) rfl
  rw [show ((0 : Nat) : Int) = 0 from rfl] at this
  unfold law01_StreamsX joinK
  dsimp only
  rw [this]
  simp

/-! sums -/
def sumW : List GStream → Int → Int → Int → Int → GStream
  | [], a, b, c, d => ⟨a, b, c, d⟩
  | x :: l, a, b, c, d => sumW l (w64 (a + x.Mass)) (w64 (b + x.Heat)) (w64 (c + x.Silica)) (w64 (d + x.Gas))
theorem sum_loop (N : Nat) (t : List GStream) (k : Int × Int × Int × Int → Option GStream) (hl : t.length ≤ 1000) : ∀ (n i : Nat) (a b c d : Int), (t.drop i).length < n → i ≤ t.length →
    steam_sumX_loop1 N t k n i a b c d = k ((sumW (t.drop i) a b c d).Mass, (sumW (t.drop i) a b c d).Heat, (sumW (t.drop i) a b c d).Silica, (sumW (t.drop i) a b c d).Gas) := by
  intro n
  induction n with
  | zero => intro i a b c d h; omega
  | succ n ih =>
    intro i a b c d h hi
    unfold steam_sumX_loop1
    cases hd : t.drop i with
    | nil =>
      have := drop_nil hd
      rw [show (decide ((i : Int) < (t.length : Int))) = false by simp; omega]
      rfl
    | cons x l =>
      obtain ⟨h1, h2, h3⟩ := drop_cons hd
      rw [show (decide ((i : Int) < (t.length : Int))) = true by simp; omega]
      have e : w64 ((i : Int) + 1) = ((i + 1 : Nat) : Int) := by rw [w64_id] <;> omega
      simp only [cond_true, getI_at h1, Option.bind_some, e, steam_sum_1X_1, steam_Stream_numbersX_1, sumW]
      rw [ih (i + 1) _ _ _ _ (by rw [h2]; rw [hd] at h; simpa using h) (by omega), h2]
theorem sum_eq {N : Nat} {t : List GStream} (hl : t.length ≤ 1000) (hN : 1001 ≤ N) : steam_sumX N t = some (sumW t 0 0 0 0) := by
  have := fun k => sum_loop N t k hl N 0 0 0 0 0 (by simp; omega) (Nat.zero_le _)
  rw [show ((0 : Nat) : Int) = 0 from rfl, List.drop_zero] at this
  unfold steam_sumX joinK
  dsimp only
  rw [this]
theorem lawSum_loop (N : Nat) (t : List GStream) (k : Int × Int × Int × Int → Option Bool) (hl : t.length ≤ 1000) : ∀ (n i : Nat) (a b c d : Int), (t.drop i).length < n → i ≤ t.length →
    law01_SteamKeepsX_loop1 N t k n i a b c d = k ((sumW (t.drop i) a b c d).Mass, (sumW (t.drop i) a b c d).Heat, (sumW (t.drop i) a b c d).Silica, (sumW (t.drop i) a b c d).Gas) := by
  intro n
  induction n with
  | zero => intro i a b c d h; omega
  | succ n ih =>
    intro i a b c d h hi
    unfold law01_SteamKeepsX_loop1
    cases hd : t.drop i with
    | nil =>
      have := drop_nil hd
      rw [show (decide ((i : Int) < (t.length : Int))) = false by simp; omega]
      rfl
    | cons x l =>
      obtain ⟨h1, h2, h3⟩ := drop_cons hd
      rw [show (decide ((i : Int) < (t.length : Int))) = true by simp; omega]
      have e : w64 ((i : Int) + 1) = ((i + 1 : Nat) : Int) := by rw [w64_id] <;> omega
      simp only [cond_true, getI_at h1, Option.bind_some, e, stream_eq, law01_plusX, sumW]
      rw [ih (i + 1) _ _ _ _ (by rw [h2]; rw [hd] at h; simpa using h) (by omega), h2]
def mixA (t : List GStream) : GStream × Int :=
  bif decide ((sumW t 0 0 0 0).Mass > 1000000) then (⟨0, 0, 0, 0⟩, 3) else bif decide ((sumW t 0 0 0 0).Gas > 1000000000) then (⟨0, 0, 0, 0⟩, 3) else (sumW t 0 0 0 0, 0)
theorem mix_eq {N : Nat} {t : List GStream} (hl : t.length ≤ 40) (hv : t.all strB = true) (hN : 1001 ≤ N) : steam_MixX N t = some (mixA t) := by
  unfold steam_MixX steam_checkedX mixA
  rw [decide_eq_false (show ¬ (t.length : Int) > 40 by omega), allStr_eq (by omega) hN, hv, sum_eq (by omega) hN]
  simp only [cond_false, Option.bind_some, Bool.not_true, bne_self_eq_false]
  cases decide ((sumW t 0 0 0 0).Mass > 1000000) <;> cases decide ((sumW t 0 0 0 0).Gas > 1000000000) <;> rfl

/-! the parts -/
theorem checkV {N : Nat} {s : GStream} (h : StrV s) : steam_CheckStreamX N s = some 0 := by
  unfold steam_CheckStreamX
  rw [validStream_eq, strV_iff.2 h]
  rfl
/-- The sums ahead of a round. -/
structure Ahead (s nw : GStream) (sc a b c d : Int) : Prop where
  m0 : 0 ≤ a
  h0 : 0 ≤ b
  s0 : c = 0
  g0 : 0 ≤ d
  c0 : 0 ≤ sc
  m : a + nw.Mass = s.Mass
  h : b + nw.Heat = s.Heat
  sil : sc + nw.Silica = s.Silica
  g : d + nw.Gas = s.Gas
theorem parts_loop (N : Nat) {t : List GRow} (ht : tabB t = true) {s : GStream} (hs : StrV s) (x : List GParts) (e : Int) (k : Int × Int × Int × Int × Int × Int × Int × Int × Int → Option Bool) (hx : x.length ≤ 1000) :
    ∀ (n i : Nat) (l : List Int) (nw : GStream) (sc a b c d : Int), (∀ y ∈ l, btw y 0 ((t.length : Int) - 1) = true) → StrV nw → Ahead s nw sc a b c d → x.drop i = trainG t nw l → l.length < n → i ≤ x.length →
    ∃ nw' sc' a' b' c' d', StrV nw' ∧ Ahead s nw' sc' a' b' c' d' ∧ law01_SteamKeepsX_loop2 N (x, e) k n sc i nw.Mass nw.Heat nw.Silica nw.Gas a b c d = k (sc', nw'.Mass, nw'.Heat, nw'.Silica, nw'.Gas, a', b', c', d') := by
  intro n
  induction n with
  | zero => intro i l nw sc a b c d _ _ _ _ h; omega
  | succ n ih =>
    intro i l nw sc a b c d hl hw hA hd hn hi
    unfold law01_SteamKeepsX_loop2
    cases l with
    | nil =>
      have := drop_nil hd
      rw [show (decide ((i : Int) < (((x, e) : (List GParts) × Int).1.length : Int))) = false by simp only [decide_eq_false_iff_not]; omega]
      exact ⟨nw, sc, a, b, c, d, hw, hA, rfl⟩
    | cons y l =>
      obtain ⟨h1, h2, h3⟩ := drop_cons hd
      rw [show (decide ((i : Int) < (((x, e) : (List GParts) × Int).1.length : Int))) = true by simp only [decide_eq_true_eq]; omega]
      have e1 : w64 ((i : Int) + 1) = ((i + 1 : Nat) : Int) := by rw [w64_id] <;> omega
      have hk := flG_kept (row_at ht (hl y (List.mem_cons_self ..))).2 hw
      generalize flG ((getI t y).getD ⟨0, 0, 0, 0, 0⟩) nw = p at h1 h2 hk
      have hA' : Ahead s p.Water (sc + p.Scale) (a + p.Steam.Mass) (b + p.Steam.Heat) (c + p.Steam.Silica) (d + p.Steam.Gas) := by
        obtain ⟨a1, a2, a3, a4, a5, a6, a7, a8, a9⟩ := hA
        obtain ⟨k1, k2, k3, k4, k5, k6, k7, k8⟩ := hk
        obtain ⟨t1, t2, t3, t4, t5, t6, t7, t8⟩ := k1
        exact ⟨by omega, by omega, by omega, by omega, by omega, by omega, by omega, by omega, by omega⟩
      have hst := hs
      obtain ⟨z1, z2, z3, z4, z5, z6, z7, z8⟩ := hst
      obtain ⟨a1, a2, a3, a4, a5, a6, a7, a8, a9⟩ := hA
      obtain ⟨b1, b2, b3, b4, b5, b6, b7, b8, b9⟩ := hA'
      have hk' := hk
      obtain ⟨k1, k2, k3, k4, k5, k6, k7, k8⟩ := hk'
      obtain ⟨t1, t2, t3, t4, t5, t6, t7, t8⟩ := k1
      obtain ⟨u1, u2, u3, u4, u5, u6, u7, u8⟩ := k2
      simp only [cond_true, getI_at h1, Option.bind_some, e1, joinK, law01_plusX]
      rw [w64_id (x := p.Steam.Mass + p.Water.Mass) (by omega) (by omega), w64_id (x := p.Steam.Heat + p.Water.Heat) (by omega) (by omega), w64_id (x := p.Steam.Silica + p.Water.Silica) (by omega) (by omega), w64_id (x := p.Steam.Gas + p.Water.Gas) (by omega) (by omega),
        w64_id (x := p.Steam.Silica + p.Water.Silica + p.Scale) (by omega) (by omega), w64_id (x := sc + p.Scale) (by omega) (by omega), w64_id (x := a + p.Steam.Mass) (by omega) (by omega), w64_id (x := b + p.Steam.Heat) (by omega) (by omega), w64_id (x := c + p.Steam.Silica) (by omega) (by omega), w64_id (x := d + p.Steam.Gas) (by omega) (by omega)]
      have q1 : (([p.Steam.Mass + p.Water.Mass, p.Steam.Heat + p.Water.Heat, p.Steam.Silica + p.Water.Silica + p.Scale, p.Steam.Gas + p.Water.Gas] : List Int) == [nw.Mass, nw.Heat, nw.Silica, nw.Gas]) = true := by
        rw [beq_iff_eq, k3, k4, k6, show p.Steam.Silica + p.Water.Silica + p.Scale = nw.Silica by omega]
      rw [q1, k7, decide_eq_false (show ¬ p.Scale < 0 by omega)]
      have c1 : steam_CheckStreamX N ⟨p.Steam.Mass, p.Steam.Heat, 0, p.Steam.Gas⟩ = some 0 := by
        have := checkV (N := N) hk.st
        rw [show p.Steam = ⟨p.Steam.Mass, p.Steam.Heat, p.Steam.Silica, p.Steam.Gas⟩ from rfl, k7] at this
        exact this
      have c2 : steam_CheckStreamX N ⟨p.Water.Mass, p.Water.Heat, p.Water.Silica, p.Water.Gas⟩ = some 0 := checkV hk.wa
      simp only [Bool.not_true, cond_false, bne_self_eq_false, c1, c2, Option.bind_some]
      refine ih (i + 1) l p.Water _ _ _ _ _ (fun z hz => hl z (List.mem_cons_of_mem _ hz)) hk.wa ?_ h2 (by simp at hn; omega) (by omega)
      rw [k7] at b3
      exact ⟨b1, b2, b3, b4, b5, b6, b7, b8, b9⟩

theorem keeps_true {N : Nat} (t : List GRow) (l : List Int) (ss : List GStream) (by' : Int) (hN : 1001 + t.length + l.length ≤ N) (ht : t.length ≤ 9223372036854775807) (hl : l.length ≤ 9223372036854775807) (f0 : 0 ≤ by') (f1 : by' ≤ 4294967295) : law01_SteamKeepsX N t l ss by' = some true := by
  unfold law01_SteamKeepsX
  have e0 : w64 ((t.length : Int) - 1) = (t.length : Int) - 1 := by rw [w64_id] <;> omega
  simp only [joinK, right_eq (N := N) (t := t) ht (by omega), levels_eq (N := N) (l := l) hl e0 (by omega), Option.bind_some]
  cases hT : tabB t with
  | false => rfl
  | true =>
    cases hL : levB t.length l with
    | false => rfl
    | true =>
      by_cases n1 : (ss.length : Int) < 1
      · rw [decide_eq_true n1]; rfl
      by_cases n2 : (ss.length : Int) > 40
      · rw [decide_eq_false n1, decide_eq_true n2]; rfl
      rw [decide_eq_false n1, decide_eq_false n2, streams_eq (by omega) (by omega)]
      cases hV : ss.all strB with
      | false => rfl
      | true =>
        obtain ⟨q1, q2, q3⟩ := levB_all hL
        have htl : t.length ≤ 20 := by
          simp only [tabB, Bool.and_eq_true, btw, decide_eq_true_eq] at hT
          omega
        have h0 : ss[0]? = some ss[0] := List.getElem?_eq_getElem (by omega)
        generalize ss[0] = s at h0
        have g0 : getI ss 0 = some s := getI_at (i := 0) h0
        have hS : strB s = true := List.all_eq_true.1 hV s (List.mem_of_getElem? h0)
        have hs := strV_iff.1 hS
        have h9 : ss[ss.length - 1]? = some ss[ss.length - 1] := List.getElem?_eq_getElem (by omega)
        generalize ss[ss.length - 1] = o at h9
        have g9 : getI ss (w64 ((ss.length : Int) - 1)) = some o := by
          rw [show w64 ((ss.length : Int) - 1) = ((ss.length - 1 : Nat) : Int) by rw [w64_id] <;> omega]
          exact getI_at h9
        have hO : strB o = true := List.all_eq_true.1 hV o (List.mem_of_getElem? h9)
        have ho := strV_iff.1 hO
        have hta : trainA t l s = (trainG t s l, 0) := by simp [trainA, hT, hL, hS]
        have hlen := trainG_len t l s
        have n3 : (((trainG t s l).length : Int) != (l.length : Int)) = false := by simp; omega
        have hc : decide ((0 + l.length) * 8 ≤ 140737488355328) = true := by simp; omega
        have hsum := fun k => lawSum_loop N ss k (by omega) N 0 0 0 0 0 (by simp; omega) (Nat.zero_le _)
        rw [show ((0 : Nat) : Int) = 0 from rfl, List.drop_zero] at hsum
        have hbody := fun k => parts_loop N hT hs (trainG t s l) 0 k (by omega) N 0 l s 0 0 0 0 0 q2 hs ⟨by omega, by omega, rfl, by omega, by omega, by omega, by omega, by omega, by omega⟩ (by rw [List.drop_zero]) (by omega) (Nat.zero_le _)
        rw [show ((0 : Nat) : Int) = 0 from rfl] at hbody
        simp only [Bool.not_true, cond_false, Option.bind_some, g0, stream_eq, table_eq (show t.length ≤ 1000 by omega) (show 1001 ≤ N by omega), hc, chk, cond_true, train_eq (show 1001 ≤ N by omega) (show t.length ≤ 1000 by omega) (show l.length ≤ 1000 by omega) s, hta, bne_self_eq_false, n3]
        obtain ⟨nw, sc, a, b, c, d, hw, hA, hk⟩ := hbody _
        rw [hk]
        clear hk hbody
        obtain ⟨a1, a2, a3, a4, a5, a6, a7, a8, a9⟩ := hA
        obtain ⟨z1, z2, z3, z4, z5, z6, z7, z8⟩ := hs
        obtain ⟨y1, y2, y3, y4, y5, y6, y7, y8⟩ := ho
        obtain ⟨u1, u2, u3, u4, u5, u6, u7, u8⟩ := hw
        simp only [law01_plusX, Option.bind_some]
        subst a3
        rw [w64_id (x := a + nw.Mass) (by omega) (by omega), w64_id (x := b + nw.Heat) (by omega) (by omega), w64_id (x := 0 + nw.Silica) (by omega) (by omega), w64_id (x := d + nw.Gas) (by omega) (by omega), w64_id (x := 0 + nw.Silica + sc) (by omega) (by omega), a6, a7, a9, show 0 + nw.Silica + sc = s.Silica by omega]
        simp only [beq_self_eq_true, Bool.not_true, cond_false, hsum, copyStr_eq (show ss.length ≤ 1000 by omega) (show 1001 ≤ N by omega), Option.bind_some, mix_eq (show ss.length ≤ 40 by omega) hV (show 1001 ≤ N by omega)]
        -- behind the sum: the exchange
        have hx : (steam_ExchangeX N s o (w64 by')).bind (fun x44 =>
                        bif (x44.2.2 == 2) then
                          (law01_awakeX N ).bind fun x47 =>
                          some x47
                        else
                          bif (x44.2.2 == 0) then
                            bif (([w64 (x44.1.Mass + x44.2.1.Mass), w64 (x44.1.Heat + x44.2.1.Heat), w64 (x44.1.Silica + x44.2.1.Silica), w64 (x44.1.Gas + x44.2.1.Gas)] : List Int) == [w64 (s.Mass + o.Mass), w64 (s.Heat + o.Heat), w64 (s.Silica + o.Silica), w64 (s.Gas + o.Gas)]) then
                              bif (x44.2.1.Heat == (w64 (o.Heat + (w64 by')))) then
                                (law01_awakeX N ).bind fun x56 =>
                                some x56
                              else
                                some false
                            else
                              some false
                          else
                            some false) = some true := by
          unfold steam_ExchangeX
          simp only [validStream_eq, hS, hO, Option.bind_some, Bool.not_true, cond_false, joinK]
          rw [w64_id (x := by') (by omega) (by omega), decide_eq_false (show ¬ by' < 0 by omega)]
          by_cases c1 : by' > s.Heat
          · rw [decide_eq_true c1]; rfl
          · rw [decide_eq_false c1]
            by_cases c2 : by' > w64 (w64 (4000 * o.Mass) - o.Heat)
            · rw [decide_eq_true c2]; rfl
            · rw [decide_eq_false c2, w64_id (x := s.Heat - by') (by omega) (by omega), w64_id (x := o.Heat + by') (by omega) (by omega)]
              simp only [cond_false, Option.bind_some]
              rw [show s.Heat - by' + (o.Heat + by') = s.Heat + o.Heat by omega]
              simp only [show ((0 : Int) == 2) = false from rfl, cond_false, beq_self_eq_true, cond_true]
              rfl
        simp only [g9, Option.bind_some, hx]
        unfold mixA
        generalize sumW ss 0 0 0 0 = m
        by_cases d1 : m.Mass > 1000000
        · rw [decide_eq_true d1, decide_eq_false (show ¬ m.Mass ≤ 1000000 by omega)]
          rfl
        · rw [decide_eq_false d1, decide_eq_true (show m.Mass ≤ 1000000 by omega)]
          by_cases d2 : m.Gas > 1000000000
          · rw [decide_eq_true d2, decide_eq_false (show ¬ m.Gas ≤ 1000000000 by omega)]
            rfl
          · rw [decide_eq_false d2]
            simp only [cond_false, beq_self_eq_true, cond_true, Bool.not_true, bne_self_eq_false]
end Go.Proofs.Ytenpbiineblcjaa
