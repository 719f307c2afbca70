/-
  The arguments of given statements as lists and numbers. No conditions.
-/
import Derived.Test.YtmbhnllcfmiajaaGreatXt
import Derived.Test.YtmbhnllcfmiajaaGreatEngZ
namespace Go.Proofs.YtmbhnllcfmiajaaGreat
set_option maxRecDepth 100000
open Go.ChangeShapes Go.WideShapes Go.ChangeAt Go.RowKit Go.Deep Go.Joins
def Qkc (x:Int):Prop:=(Lit.int .i64 x).wf=true
def Zdo (x:GRow):Prop:=Qkc x.T∧Qkc x.P∧Qkc x.Liquid∧Qkc x.Vapour∧Qkc x.Silica
def Q53 (x:(List GRow)):Prop:=x.length≤maxLen∧(∀ y ∈ x,Zdo y)∧x.length * 40≤140737488351232
def Zp8 (x:Int):Prop:=(Lit.int .u8 x).wf=true
def Q54 (x:GPort):Prop:=Qkc x.Element∧Qkc x.Outlet
def Q0y (x:(List GPort)):Prop:=x.length≤maxLen∧(∀ y ∈ x,Q54 y)∧x.length * 16≤140737488351232
def Q3n (x:(List Int)):Prop:=x.length≤maxLen∧(∀ y ∈ x,Qkc y)∧x.length * 8≤140737488351232
def Que (x:GElement):Prop:=Zp8 x.Kind∧Q0y x.From∧Qkc x.Level∧Qkc x.Amount∧Qkc x.Wide∧Qkc x.Narrow∧Q3n x.Weights
def Qry (x:(List GElement)):Prop:=x.length≤maxLen∧(∀ y ∈ x,Que y)∧x.length * 88≤140737488351232
def Zdp (x:GNet):Prop:=Q53 x.Table∧Qry x.Elements
theorem opn3:Opn Tryz.prog 3 1 Qal Qkc:=Zcv Tryz.underlying3 (by kernel_rfl)
theorem Zp4:Opn Tryz.prog 149 5 Qa4 Zdo:=⟨by kernel_rfl,fun _=>rfl,fun _ _ _ _ _ _ _ _ _ h hw=>by
  obtain ⟨xs,n,_,rfl,hl,hx,hf⟩:=DataW.trod_struct Tryz.underlying149 h
  have hz:=Qky Tryz.underlying149 hw
  obtain ⟨v0,g0,r0⟩:=Qd7 hf hx hz 0 _ rfl opn3
  obtain ⟨v1,g1,r1⟩:=Qd7 hf hx hz 1 _ rfl opn3
  obtain ⟨v2,g2,r2⟩:=Qd7 hf hx hz 2 _ rfl opn3
  obtain ⟨v3,g3,r3⟩:=Qd7 hf hx hz 3 _ rfl opn3
  obtain ⟨v4,g4,r4⟩:=Qd7 hf hx hz 4 _ rfl opn3
  exact ⟨⟨v0,v1,v2,v3,v4⟩,⟨g0,g1,g2,g3,g4⟩,Qtm (Qg5 (Qg5 (Qg5 (Qg5 (Qni r0) r1 rfl) r2 rfl) r3 rfl) r4 rfl) (hl.trans (by kernel_rfl))⟩⟩
theorem Zrn:Opn Tryz.prog 23 1 Zef Q53:=Qnp Tryz.underlying23 (by kernel_rfl) Zp4 (by decide) (by kernel_rfl)
theorem opn5:Opn Tryz.prog 5 1 c_u8 Zp8:=Zcv Tryz.underlying5 (by kernel_rfl)
theorem Zrh:Opn Tryz.prog 61 2 Qap Q54:=⟨by kernel_rfl,fun _=>rfl,fun _ _ _ _ _ _ _ _ _ h hw=>by
  obtain ⟨xs,n,_,rfl,hl,hx,hf⟩:=DataW.trod_struct Tryz.underlying61 h
  have hz:=Qky Tryz.underlying61 hw
  obtain ⟨v0,g0,r0⟩:=Qd7 hf hx hz 0 _ rfl opn3
  obtain ⟨v1,g1,r1⟩:=Qd7 hf hx hz 1 _ rfl opn3
  exact ⟨⟨v0,v1⟩,⟨g0,g1⟩,Qtm (Qg5 (Qni r0) r1 rfl) (hl.trans (by kernel_rfl))⟩⟩
theorem Zrj:Opn Tryz.prog 57 1 Qyt Q0y:=Qnp Tryz.underlying57 (by kernel_rfl) Zrh (by decide) (by kernel_rfl)
theorem Zp3:Opn Tryz.prog 27 1 Q6i Q3n:=Qnp Tryz.underlying27 (by kernel_rfl) opn3 (by decide) (by kernel_rfl)
theorem Zri:Opn Tryz.prog 59 7 Qad Que:=⟨by kernel_rfl,fun _=>rfl,fun _ _ _ _ _ _ _ _ _ h hw=>by
  obtain ⟨xs,n,_,rfl,hl,hx,hf⟩:=DataW.trod_struct Tryz.underlying59 h
  have hz:=Qky Tryz.underlying59 hw
  obtain ⟨v0,g0,r0⟩:=Qd7 hf hx hz 0 _ rfl opn5
  obtain ⟨v1,g1,r1⟩:=Qd7 hf hx hz 1 _ rfl Zrj
  obtain ⟨v2,g2,r2⟩:=Qd7 hf hx hz 2 _ rfl opn3
  obtain ⟨v3,g3,r3⟩:=Qd7 hf hx hz 3 _ rfl opn3
  obtain ⟨v4,g4,r4⟩:=Qd7 hf hx hz 4 _ rfl opn3
  obtain ⟨v5,g5,r5⟩:=Qd7 hf hx hz 5 _ rfl opn3
  obtain ⟨v6,g6,r6⟩:=Qd7 hf hx hz 6 _ rfl Zp3
  exact ⟨⟨v0,v1,v2,v3,v4,v5,v6⟩,⟨g0,g1,g2,g3,g4,g5,g6⟩,Qtm (Qg5 (Qg5 (Qg5 (Qg5 (Qg5 (Qg5 (Qni r0) r1 rfl) r2 rfl) r3 rfl) r4 rfl) r5 rfl) r6 rfl) (hl.trans (by kernel_rfl))⟩⟩
theorem Zrm:Opn Tryz.prog 24 1 Qur Qry:=Qnp Tryz.underlying24 (by kernel_rfl) Zri (by decide) (by kernel_rfl)
theorem Zrl:Opn Tryz.prog 26 2 Qhz Zdp:=⟨by kernel_rfl,fun _=>rfl,fun _ _ _ _ _ _ _ _ _ h hw=>by
  obtain ⟨xs,n,_,rfl,hl,hx,hf⟩:=DataW.trod_struct Tryz.underlying26 h
  have hz:=Qky Tryz.underlying26 hw
  obtain ⟨v0,g0,r0⟩:=Qd7 hf hx hz 0 _ rfl Zrn
  obtain ⟨v1,g1,r1⟩:=Qd7 hf hx hz 1 _ rfl Zrm
  exact ⟨⟨v0,v1⟩,⟨g0,g1⟩,Qtm (Qg5 (Qni r0) r1 rfl) (hl.trans (by kernel_rfl))⟩⟩
def Qwa (x:GStream):Prop:=Qkc x.Mass∧Qkc x.Heat∧Qkc x.Silica∧Qkc x.Gas
def Qud (x:(List GStream)):Prop:=x.length≤maxLen∧(∀ y ∈ x,Qwa y)∧x.length * 32≤140737488351232
theorem Zrg:Opn Tryz.prog 89 4 Qaa Qwa:=⟨by kernel_rfl,fun _=>rfl,fun _ _ _ _ _ _ _ _ _ h hw=>by
  obtain ⟨xs,n,_,rfl,hl,hx,hf⟩:=DataW.trod_struct Tryz.underlying89 h
  have hz:=Qky Tryz.underlying89 hw
  obtain ⟨v0,g0,r0⟩:=Qd7 hf hx hz 0 _ rfl opn3
  obtain ⟨v1,g1,r1⟩:=Qd7 hf hx hz 1 _ rfl opn3
  obtain ⟨v2,g2,r2⟩:=Qd7 hf hx hz 2 _ rfl opn3
  obtain ⟨v3,g3,r3⟩:=Qd7 hf hx hz 3 _ rfl opn3
  exact ⟨⟨v0,v1,v2,v3⟩,⟨g0,g1,g2,g3⟩,Qtm (Qg5 (Qg5 (Qg5 (Qni r0) r1 rfl) r2 rfl) r3 rfl) (hl.trans (by kernel_rfl))⟩⟩
theorem Zrk:Opn Tryz.prog 28 1 Qak Qud:=Qnp Tryz.underlying28 (by kernel_rfl) Zrg (by decide) (by kernel_rfl)
end Go.Proofs.YtmbhnllcfmiajaaGreat
