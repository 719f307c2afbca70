/-
  Plain laws on sums of streams and on the parts of one. No conditions but validity.
-/
import Derived.Test.YtmbhnllcfmiajaaGreatPSb6
namespace Go.Proofs.YtmbhnllcfmiajaaGreat
open Go.RowKit
def totS (l:List GStream):GStream:=⟨(l.map fun s=>s.Mass).sum,(l.map fun s=>s.Heat).sum,(l.map fun s=>s.Silica).sum,(l.map fun s=>s.Gas).sum⟩
structure TotV (t:GStream) (n:Nat):Prop where
 m0:0≤t.Mass
 m1:t.Mass≤1000000 * n
 h0:0≤t.Heat
 h1:t.Heat≤4000 * t.Mass
 s0:0≤t.Silica
 s1:t.Silica≤10000 * t.Mass
 g0:0≤t.Gas
 g1:t.Gas≤1000000000 * n
structure KeptP (s:GStream) (o:List GStream) (l:GLoss):Prop where
 v:∀ x ∈ o,StrV x
 m:(totS o).Mass=s.Mass
 h:(totS o).Heat+l.Heat=s.Heat
 q:(totS o).Silica+l.Silica=s.Silica
 g:(totS o).Gas+l.Gas=s.Gas
 h0:0≤l.Heat
 q0:0≤l.Silica
 g0:0≤l.Gas
section
variable {N : Nat} {s : GStream} {ws : List Int} (hs : StrV s) (h : WtsV ws) (hN : 1001 ≤ N)
include hs in
include hs in
include h hN in
include hs h hN in
end
end Go.Proofs.YtmbhnllcfmiajaaGreat
