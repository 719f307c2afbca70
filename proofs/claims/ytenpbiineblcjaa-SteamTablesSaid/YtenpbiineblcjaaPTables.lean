/-
  The statement on tables: the extracted law returns true for every input. No conditions.
-/
import Derived.Test.YtenpbiineblcjaaX3
import Derived.Test.YtenpbiineblcjaaPTab
namespace Go.Proofs.Ytenpbiineblcjaa
open Go.RowKit

theorem checkTable_eq {N : Nat} {t : List GRow} (hl : t.length ≤ 1000) (hN : 1001 ≤ N) : steam_CheckTableX N t = some (bif tabB t then 0 else 1) := by
  unfold steam_CheckTableX
  rw [valid_eq hl hN]
  cases tabB t <;> rfl
theorem at_eq {N : Nat} {t : List GRow} {p : Int} (hl : t.length ≤ 1000) (hN : 1001 ≤ N) : steam_AtX N t p = some (atR (tabB t) t p) := by
  unfold steam_AtX
  rw [valid_eq hl hN]
  rfl

theorem tables_true {N : Nat} (hN : 1001 ≤ N) (t : List GRow) (s : GStream) (p temp : Int) : law01_SteamTablesX N t s p temp = some true := by
  unfold law01_SteamTablesX
  by_cases hl : (t.length : Int) > 30
  · rw [decide_eq_true hl]
    rfl
  have hl' : t.length ≤ 1000 := by omega
  obtain ⟨b, hb⟩ := rightStream_eq N s
  have hT := table_eq hl' hN
  have hA := at_eq (p := p) hl' hN
  have hR := refAt_eq (p := p) hl' hN
  have hC := checkTable_eq hl' hN
  have hV := right_eq (N := N) (t := t) (by omega) (by omega)
  have hK : steam_CheckStreamX N s = some (bif b then 0 else 1) := by rw [check_eq, hb]; rfl
  have hW : law01_awakeX N = some true := rfl
  rw [decide_eq_false hl]
  cases htab : tabB t with
  | false =>
    rw [htab] at hA hC hV
    have hS := sat_bad (p := temp) hl' hN htab
    cases b <;> simp [joinK, hT, hA, hC, hV, hS, hb, hK, hW, stream_eq, atR]
  | true =>
    rw [htab] at hA hC hV
    have hlen := tab_len htab
    have hx : t[0]? = some t[0] := List.getElem?_eq_getElem (by omega)
    have hy : t[t.length - 1]? = some t[t.length - 1] := List.getElem?_eq_getElem (by omega)
    have g0 : getI t 0 = some t[0] := getI_at (i := 0) hx
    have g1 := getI_last hl' hlen.1 hy
    generalize t[0] = x at hx g0
    generalize t[t.length - 1] = y at hy g1
    cases hin : btw temp x.T y.T with
    | false =>
      have hS := sat_out hN htab hx hy hin
      cases hla : lastAt p t t.length with
      | none => cases b <;> simp [joinK, hT, hA, hC, hV, hS, hb, hK, hW, hR, stream_eq, atR, hla, code, g0, g1, in_eq, hin]
      | some m =>
        have hm : ¬ ((m : Int) < 0) := by omega
        cases b <;> simp [joinK, hT, hA, hC, hV, hS, hb, hK, hW, hR, stream_eq, atR, hla, code, g0, g1, in_eq, hin, hm]
    | true =>
      obtain ⟨r, hS, hQ⟩ := sat_eq hN htab hx hy hin
      cases hla : lastAt p t t.length with
      | none => cases b <;> simp [joinK, hT, hA, hC, hV, hS, hQ, hb, hK, hW, hR, stream_eq, atR, hla, code, g0, g1, in_eq, hin]
      | some m =>
        have hm : ¬ ((m : Int) < 0) := by omega
        cases b <;> simp [joinK, hT, hA, hC, hV, hS, hQ, hb, hK, hW, hR, stream_eq, atR, hla, code, g0, g1, in_eq, hin, hm]
end Go.Proofs.Ytenpbiineblcjaa
