/-
  The arguments of given statements as lists and numbers. No conditions.
-/
import Derived.Test.YtmbhnllcfmiajaaGreatXt
import Derived.Test.YtmbhnllcfmiajaaGreatEngZ
namespace Go.Proofs.YtmbhnllcfmiajaaGreat
set_option maxRecDepth 100000
open Go.ChangeShapes Go.WideShapes Go.ChangeAt Go.RowKit Go.Deep Go.Joins
def Qi9 (x:Int):Prop:=(Lit.int .i64 x).wf=true
def Q8h (x:GRow):Prop:=Qi9 x.T∧Qi9 x.P∧Qi9 x.Liquid∧Qi9 x.Vapour∧Qi9 x.Silica
def Q2p (x:(List GRow)):Prop:=x.length≤maxLen∧(∀ y ∈ x,Q8h y)∧x.length * 40≤140737488351232
def Zj4 (x:Int):Prop:=(Lit.int .u8 x).wf=true
def Q2q (x:GPort):Prop:=Qi9 x.Element∧Qi9 x.Outlet
def Qxt (x:(List GPort)):Prop:=x.length≤maxLen∧(∀ y ∈ x,Q2q y)∧x.length * 16≤140737488351232
def Qz6 (x:(List Int)):Prop:=x.length≤maxLen∧(∀ y ∈ x,Qi9 y)∧x.length * 8≤140737488351232
def Qr3 (x:GElement):Prop:=Zj4 x.Kind∧Qxt x.From∧Qi9 x.Level∧Qi9 x.Amount∧Qi9 x.Wide∧Qi9 x.Narrow∧Qz6 x.Weights
def Qp6 (x:(List GElement)):Prop:=x.length≤maxLen∧(∀ y ∈ x,Qr3 y)∧x.length * 88≤140737488351232
def Q8i (x:GNet):Prop:=Q2p x.Table∧Qp6 x.Elements
theorem opn3:Opn Tryz.prog 3 1 Qak Qi9:=Qzs Tryz.underlying3 (by kernel_rfl)
theorem Zj1:Opn Tryz.prog 149 5 Qaw Q8h:=⟨by kernel_rfl,fun _=>rfl,fun _ _ _ _ _ _ _ _ _ h hw=>by
  obtain ⟨xs,n,_,rfl,hl,hx,hf⟩:=DataW.trod_struct Tryz.underlying149 h
  have hz:=Qj1 Tryz.underlying149 hw
  obtain ⟨v0,g0,r0⟩:=Qdx hf hx hz 0 _ rfl opn3
  obtain ⟨v1,g1,r1⟩:=Qdx hf hx hz 1 _ rfl opn3
  obtain ⟨v2,g2,r2⟩:=Qdx hf hx hz 2 _ rfl opn3
  obtain ⟨v3,g3,r3⟩:=Qdx hf hx hz 3 _ rfl opn3
  obtain ⟨v4,g4,r4⟩:=Qdx hf hx hz 4 _ rfl opn3
  exact ⟨⟨v0,v1,v2,v3,v4⟩,⟨g0,g1,g2,g3,g4⟩,Qrl (Qgh (Qgh (Qgh (Qgh (Qma r0) r1 rfl) r2 rfl) r3 rfl) r4 rfl) (hl.trans (by kernel_rfl))⟩⟩
theorem Zlf:Opn Tryz.prog 23 1 Q86 Q2p:=Qmj Tryz.underlying23 (by kernel_rfl) Zj1 (by decide) (by kernel_rfl)
theorem opn5:Opn Tryz.prog 5 1 c_u8 Zj4:=Qzs Tryz.underlying5 (by kernel_rfl)
theorem Zk9:Opn Tryz.prog 61 2 Qat Q2q:=⟨by kernel_rfl,fun _=>rfl,fun _ _ _ _ _ _ _ _ _ h hw=>by
  obtain ⟨xs,n,_,rfl,hl,hx,hf⟩:=DataW.trod_struct Tryz.underlying61 h
  have hz:=Qj1 Tryz.underlying61 hw
  obtain ⟨v0,g0,r0⟩:=Qdx hf hx hz 0 _ rfl opn3
  obtain ⟨v1,g1,r1⟩:=Qdx hf hx hz 1 _ rfl opn3
  exact ⟨⟨v0,v1⟩,⟨g0,g1⟩,Qrl (Qgh (Qma r0) r1 rfl) (hl.trans (by kernel_rfl))⟩⟩
theorem Zlb:Opn Tryz.prog 57 1 Qvt Qxt:=Qmj Tryz.underlying57 (by kernel_rfl) Zk9 (by decide) (by kernel_rfl)
theorem Zj0:Opn Tryz.prog 27 1 Q85 Qz6:=Qmj Tryz.underlying27 (by kernel_rfl) opn3 (by decide) (by kernel_rfl)
theorem Zla:Opn Tryz.prog 59 7 Qac Qr3:=⟨by kernel_rfl,fun _=>rfl,fun _ _ _ _ _ _ _ _ _ h hw=>by
  obtain ⟨xs,n,_,rfl,hl,hx,hf⟩:=DataW.trod_struct Tryz.underlying59 h
  have hz:=Qj1 Tryz.underlying59 hw
  obtain ⟨v0,g0,r0⟩:=Qdx hf hx hz 0 _ rfl opn5
  obtain ⟨v1,g1,r1⟩:=Qdx hf hx hz 1 _ rfl Zlb
  obtain ⟨v2,g2,r2⟩:=Qdx hf hx hz 2 _ rfl opn3
  obtain ⟨v3,g3,r3⟩:=Qdx hf hx hz 3 _ rfl opn3
  obtain ⟨v4,g4,r4⟩:=Qdx hf hx hz 4 _ rfl opn3
  obtain ⟨v5,g5,r5⟩:=Qdx hf hx hz 5 _ rfl opn3
  obtain ⟨v6,g6,r6⟩:=Qdx hf hx hz 6 _ rfl Zj0
  exact ⟨⟨v0,v1,v2,v3,v4,v5,v6⟩,⟨g0,g1,g2,g3,g4,g5,g6⟩,Qrl (Qgh (Qgh (Qgh (Qgh (Qgh (Qgh (Qma r0) r1 rfl) r2 rfl) r3 rfl) r4 rfl) r5 rfl) r6 rfl) (hl.trans (by kernel_rfl))⟩⟩
theorem Zle:Opn Tryz.prog 24 1 Qsg Qp6:=Qmj Tryz.underlying24 (by kernel_rfl) Zla (by decide) (by kernel_rfl)
theorem Zld:Opn Tryz.prog 26 2 Qhn Q8i:=⟨by kernel_rfl,fun _=>rfl,fun _ _ _ _ _ _ _ _ _ h hw=>by
  obtain ⟨xs,n,_,rfl,hl,hx,hf⟩:=DataW.trod_struct Tryz.underlying26 h
  have hz:=Qj1 Tryz.underlying26 hw
  obtain ⟨v0,g0,r0⟩:=Qdx hf hx hz 0 _ rfl Zlf
  obtain ⟨v1,g1,r1⟩:=Qdx hf hx hz 1 _ rfl Zle
  exact ⟨⟨v0,v1⟩,⟨g0,g1⟩,Qrl (Qgh (Qma r0) r1 rfl) (hl.trans (by kernel_rfl))⟩⟩
def Qt1 (x:GStream):Prop:=Qi9 x.Mass∧Qi9 x.Heat∧Qi9 x.Silica∧Qi9 x.Gas
def Qr2 (x:(List GStream)):Prop:=x.length≤maxLen∧(∀ y ∈ x,Qt1 y)∧x.length * 32≤140737488351232
theorem Zk8:Opn Tryz.prog 89 4 Qab Qt1:=⟨by kernel_rfl,fun _=>rfl,fun _ _ _ _ _ _ _ _ _ h hw=>by
  obtain ⟨xs,n,_,rfl,hl,hx,hf⟩:=DataW.trod_struct Tryz.underlying89 h
  have hz:=Qj1 Tryz.underlying89 hw
  obtain ⟨v0,g0,r0⟩:=Qdx hf hx hz 0 _ rfl opn3
  obtain ⟨v1,g1,r1⟩:=Qdx hf hx hz 1 _ rfl opn3
  obtain ⟨v2,g2,r2⟩:=Qdx hf hx hz 2 _ rfl opn3
  obtain ⟨v3,g3,r3⟩:=Qdx hf hx hz 3 _ rfl opn3
  exact ⟨⟨v0,v1,v2,v3⟩,⟨g0,g1,g2,g3⟩,Qrl (Qgh (Qgh (Qgh (Qma r0) r1 rfl) r2 rfl) r3 rfl) (hl.trans (by kernel_rfl))⟩⟩
theorem Zlc:Opn Tryz.prog 28 1 Qaj Qr2:=Qmj Tryz.underlying28 (by kernel_rfl) Zk8 (by decide) (by kernel_rfl)
end Go.Proofs.YtmbhnllcfmiajaaGreat
