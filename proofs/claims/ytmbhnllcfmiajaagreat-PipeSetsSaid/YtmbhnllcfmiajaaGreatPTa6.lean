/-
  Plain laws on a tick: what an element does, and what is kept. No conditions but validity.
-/
import Derived.Test.YtmbhnllcfmiajaaGreatPSc6
import Derived.Test.YtmbhnllcfmiajaaGreatPE6
namespace Go.Proofs.YtmbhnllcfmiajaaGreat
open Go.RowKit
def zs:GStream:=⟨0,0,0,0⟩
structure KeptA (x:GElement) (s:GStream) (a:List GStream×GLost×Int):Prop where
 v:∀ y ∈ a.1,StrV y
 len:(a.1.length:Int)=outl x
 m:(totS a.1).Mass=s.Mass
 h:(totS a.1).Heat+a.2.1.Heat=s.Heat
 q:(totS a.1).Silica+a.2.1.Silica+a.2.1.Scale=s.Silica
 g:(totS a.1).Gas+a.2.1.Gas=s.Gas
 h0:0≤a.2.1.Heat
 q0:0≤a.2.1.Silica
 g0:0≤a.2.1.Gas
 c0:0≤a.2.1.Scale
 t0:0≤a.2.2
 t1:a.2.2≤1000000
structure AloneV (x:GElement):Prop where
 k:1≤x.Kind∧x.Kind≤6
 well:x.Kind=1→x.From=[]
 a3:x.Kind=3→0≤x.Amount
 a4:x.Kind=4→0≤x.Amount∧x.Amount≤1000
 w5:x.Kind=5→WtsV x.Weights
def Qza (n:GNet) (i:Nat):List (Int×Int):=(n.Elements.take i).flatMap fun x=>x.From.map pq
def wcn (n:GNet) (i:Nat):Nat:=((n.Elements.take i).filter fun x=>decide (x.Kind=1)).length
structure FedV (n:GNet) (ws:List GStream):Prop where
 len:ws.length=wcn n n.Elements.length
 v:∀ s ∈ ws,StrV s
 m:(totS ws).Mass≤1000000
 g:(totS ws).Gas≤1000000000
structure InvT (n:GNet) (ws:List GStream) (i:Nat) (o:List (List GStream)) (ls:List GLost):Prop where
 lo:o.length=i
 ll:ls.length=i
 rows:∀ (k:Nat) y r,n.Elements[k]? = some y→o[k]? = some r→(r.length:Int)=outl y
 v:∀ r ∈ o,∀ s ∈ r,StrV s
 m:Q8i (fun s=>s.Mass) (Qza n i) (Q50 0 o)=(totS (ws.take (wcn n i))).Mass
 h:Q8i (fun s=>s.Heat) (Qza n i) (Q50 0 o)+(ls.map fun l=>l.Heat).sum=(totS (ws.take (wcn n i))).Heat
 q:Q8i (fun s=>s.Silica) (Qza n i) (Q50 0 o)+(ls.map fun l=>l.Silica).sum+(ls.map fun l=>l.Scale).sum=(totS (ws.take (wcn n i))).Silica
 g:Q8i (fun s=>s.Gas) (Qza n i) (Q50 0 o)+(ls.map fun l=>l.Gas).sum=(totS (ws.take (wcn n i))).Gas
 l0:∀ l ∈ ls,0≤l.Heat∧0≤l.Silica∧0≤l.Gas∧0≤l.Scale
section
variable {n : GNet} (hv : NetV n) {ws : List GStream} (hf : FedV n ws) {i : Nat} {o : List (List GStream)} {ls : List GLost} (hI : InvT n ws i o ls) {x : GElement} (hx : n.Elements[i]? = some x)
include hv hI hx in
include hv hx in
include hv hI hx in
include hv in
include hI in
include hf in
include hv hf hI hx in
include hv hf hI hx in
include hv hf hI hx in
include hv hf hI hx in
end
end Go.Proofs.YtmbhnllcfmiajaaGreat
