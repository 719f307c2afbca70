/-
  Plain laws on the document's flash, for layer 6. No conditions.
-/
import Derived.Test.YtmbhnllcfmiajaaGreatPTc6
import Derived.Test.YtmbhnllcfmiajaaGreatX7
namespace Go.Proofs.YtmbhnllcfmiajaaGreat
open Go.RowKit
theorem Q3c (N:Nat) {r:GRow} {s:GStream} (hr:RowV r) (hs:StrV s):Qih N r s=some (flG r s):=by
 have hw:=Zf2 hr hs
 have hc:=Qpy hr hs
 obtain ⟨l0,l1,lv,v1,s0,s1⟩:=hr
 obtain ⟨m0,m1,h0,h1,q0,q1,_,_⟩:=hs
 have p1:=bdp m0 m1 s0 s1 (by omega)
 have hd:((r.Vapour - r.Liquid) != 0)=true:=by simp; omega
 unfold Qih
 simp only [hw.a,hw.b,hw.c,hw.d,Option.bind_some,Qbb,hd,chk,cond_true]
 unfold flG
 have none0:∀ (x:Int),w64 (s.Silica - (if w64 (s.Silica - w64 (s.Mass * r.Silica))>0 then w64 (s.Silica - w64 (s.Mass * r.Silica)) else 0))=min (s.Mass * r.Silica) s.Silica∧(if w64 (s.Silica - w64 (s.Mass * r.Silica))>0 then w64 (s.Silica - w64 (s.Mass * r.Silica)) else 0)=s.Silica - min (s.Mass * r.Silica) s.Silica:=fun _=>by
  rw [Qa2 (x:=s.Mass * r.Silica) (by omega) (by omega),Qa2 (x:=s.Silica - s.Mass * r.Silica) (by omega) (by omega)]
  constructor
  ·rw [Qa2]<;>(repeat split)<;>omega
  ·split<;>omega
 have none0:=none0 0
 rcases hc with ⟨a,b⟩ | ⟨a,b,c,d⟩ | ⟨a,b,c,d,e,g1,g2⟩
 ·rw [b,if_pos rfl,decide_eq_false (show ¬ s.Heat - s.Mass * r.Liquid>0 by omega)]
  simp only [cond_false,show decide ((0:Int)>0)=false from rfl]
  have k:(bif (0:Int)==s.Mass then (some ⟨⟨s.Mass,s.Heat,min (s.Mass * r.Silica) s.Silica,s.Gas⟩,⟨0,0,0,0⟩,0,0⟩:Option GParts) else none)=(bif (0:Int)==s.Mass then (some ⟨⟨s.Mass,s.Heat,min (s.Mass * r.Silica) s.Silica,s.Gas⟩,⟨0,0,0,0⟩,0,0⟩:Option GParts) else none):=rfl
  rw [none0.1,none0.2]
  have:(if 0<s.Mass then max (s.Heat - s.Mass * r.Liquid) 0 else 0)=0:=by split<;>omega
  rw [this]
  cases (0:Int)==s.Mass<;>rfl
 ·rw [decide_eq_true (show s.Heat - s.Mass * r.Liquid>0 from a),decide_eq_true (show s.Heat≥s.Mass * r.Vapour from b),c,if_neg (show ¬ s.Mass=0 by omega),if_pos rfl]
  simp only [cond_true,beq_self_eq_true,decide_eq_true (show s.Mass>0 from d)]
 ·rw [decide_eq_true (show s.Heat - s.Mass * r.Liquid>0 from a),decide_eq_false (show ¬ s.Heat≥s.Mass * r.Vapour by omega),← c]
  generalize hm:stm r s=m at *
  rw [Qa2 (x:=m) (by omega) (by omega),show (m==s.Mass)=false by simp; omega]
  simp only [cond_true,cond_false]
  by_cases z:m=0
  ·subst z
   simp only [show decide ((0:Int)>0)=false from rfl,cond_false,if_true]
   rw [none0.1,none0.2,if_pos (show 0<s.Mass from e)]
   congr 2
   omega
  ·rw [decide_eq_true (show m>0 by omega),if_neg z,if_neg (show ¬ m=s.Mass by omega)]
   have k1:=bdp d (show m≤1000000 by omega) (show 0≤r.Vapour by omega) v1 (by omega)
   have k2:=bdp (show 0≤s.Mass - m by omega) (show s.Mass - m≤1000000 by omega) s0 s1 (by omega)
   have k3:=bdp (show 0≤s.Mass - m by omega) (show s.Mass - m≤1000000 by omega) l0 l1 (by omega)
   simp only [cond_true]
   rw [Qa2 (x:=s.Mass - m) (by omega) (by omega),Qa2 (x:=m * r.Vapour) (by omega) (by omega),Qa2 (x:=s.Heat - m * r.Vapour) (by omega) (by omega),Qa2 (x:=(s.Mass - m) * r.Silica) (by omega) (by omega),Qa2 (x:=(s.Mass - m) * r.Liquid) (by omega) (by omega),Qa2 (x:=s.Heat - m * r.Vapour - (s.Mass - m) * r.Liquid) (by omega) (by omega),Qa2 (x:=s.Silica - (s.Mass - m) * r.Silica) (by omega) (by omega)]
   have j1:w64 (s.Silica - (if s.Silica - (s.Mass - m) * r.Silica>0 then s.Silica - (s.Mass - m) * r.Silica else 0))=min ((s.Mass - m) * r.Silica) s.Silica:=by
    rw [Qa2]<;>(repeat split)<;>omega
   have j2:(if s.Silica - (s.Mass - m) * r.Silica>0 then s.Silica - (s.Mass - m) * r.Silica else 0)=s.Silica - min ((s.Mass - m) * r.Silica) s.Silica:=by split<;>omega
   rw [j1,j2]
end Go.Proofs.YtmbhnllcfmiajaaGreat
