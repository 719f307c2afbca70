/-
  The arguments of given statements as lists and numbers. No conditions.
-/
import Derived.Test.YtmbhnllcfmiajaaGreatXt
import Derived.Test.YtmbhnllcfmiajaaGreatEngZ
namespace Go.Proofs.YtmbhnllcfmiajaaGreat
set_option maxRecDepth 100000
open Go.ChangeShapes Go.WideShapes Go.ChangeAt Go.RowKit Go.Deep Go.Joins
def Qju (x:Int):Prop:=(Lit.int .i64 x).wf=true
def Zay (x:GRow):Prop:=Qju x.T∧Qju x.P∧Qju x.Liquid∧Qju x.Vapour∧Qju x.Silica
def Q41 (x:(List GRow)):Prop:=x.length≤maxLen∧(∀ y ∈ x,Zay y)∧x.length * 40≤140737488351232
def Zmt (x:Int):Prop:=(Lit.int .u8 x).wf=true
def Q42 (x:GPort):Prop:=Qju x.Element∧Qju x.Outlet
def Qz1 (x:(List GPort)):Prop:=x.length≤maxLen∧(∀ y ∈ x,Q42 y)∧x.length * 16≤140737488351232
def Q2c (x:(List Int)):Prop:=x.length≤maxLen∧(∀ y ∈ x,Qju y)∧x.length * 8≤140737488351232
def Qtw (x:GElement):Prop:=Zmt x.Kind∧Qz1 x.From∧Qju x.Level∧Qju x.Amount∧Qju x.Wide∧Qju x.Narrow∧Q2c x.Weights
def Qri (x:(List GElement)):Prop:=x.length≤maxLen∧(∀ y ∈ x,Qtw y)∧x.length * 88≤140737488351232
def Zaz (x:GNet):Prop:=Q41 x.Table∧Qri x.Elements
theorem opn3:Opn Tryz.prog 3 1 Qak Qju:=Q16 Tryz.underlying3 (by kernel_rfl)
theorem Zmp:Opn Tryz.prog 149 5 Qa0 Zay:=⟨by kernel_rfl,fun _=>rfl,fun _ _ _ _ _ _ _ _ _ h hw=>by
  obtain ⟨xs,n,_,rfl,hl,hx,hf⟩:=DataW.trod_struct Tryz.underlying149 h
  have hz:=Qkl Tryz.underlying149 hw
  obtain ⟨v0,g0,r0⟩:=Qd0 hf hx hz 0 _ rfl opn3
  obtain ⟨v1,g1,r1⟩:=Qd0 hf hx hz 1 _ rfl opn3
  obtain ⟨v2,g2,r2⟩:=Qd0 hf hx hz 2 _ rfl opn3
  obtain ⟨v3,g3,r3⟩:=Qd0 hf hx hz 3 _ rfl opn3
  obtain ⟨v4,g4,r4⟩:=Qd0 hf hx hz 4 _ rfl opn3
  exact ⟨⟨v0,v1,v2,v3,v4⟩,⟨g0,g1,g2,g3,g4⟩,Qs7 (Qgw (Qgw (Qgw (Qgw (Qm6 r0) r1 rfl) r2 rfl) r3 rfl) r4 rfl) (hl.trans (by kernel_rfl))⟩⟩
theorem Zn0:Opn Tryz.prog 23 1 Zbj Q41:=Qnf Tryz.underlying23 (by kernel_rfl) Zmp (by decide) (by kernel_rfl)
theorem opn5:Opn Tryz.prog 5 1 c_u8 Zmt:=Q16 Tryz.underlying5 (by kernel_rfl)
theorem Znu:Opn Tryz.prog 61 2 Qas Q42:=⟨by kernel_rfl,fun _=>rfl,fun _ _ _ _ _ _ _ _ _ h hw=>by
  obtain ⟨xs,n,_,rfl,hl,hx,hf⟩:=DataW.trod_struct Tryz.underlying61 h
  have hz:=Qkl Tryz.underlying61 hw
  obtain ⟨v0,g0,r0⟩:=Qd0 hf hx hz 0 _ rfl opn3
  obtain ⟨v1,g1,r1⟩:=Qd0 hf hx hz 1 _ rfl opn3
  exact ⟨⟨v0,v1⟩,⟨g0,g1⟩,Qs7 (Qgw (Qm6 r0) r1 rfl) (hl.trans (by kernel_rfl))⟩⟩
theorem Znw:Opn Tryz.prog 57 1 Qxt Qz1:=Qnf Tryz.underlying57 (by kernel_rfl) Znu (by decide) (by kernel_rfl)
theorem Zmo:Opn Tryz.prog 27 1 Q5e Q2c:=Qnf Tryz.underlying27 (by kernel_rfl) opn3 (by decide) (by kernel_rfl)
theorem Znv:Opn Tryz.prog 59 7 Qad Qtw:=⟨by kernel_rfl,fun _=>rfl,fun _ _ _ _ _ _ _ _ _ h hw=>by
  obtain ⟨xs,n,_,rfl,hl,hx,hf⟩:=DataW.trod_struct Tryz.underlying59 h
  have hz:=Qkl Tryz.underlying59 hw
  obtain ⟨v0,g0,r0⟩:=Qd0 hf hx hz 0 _ rfl opn5
  obtain ⟨v1,g1,r1⟩:=Qd0 hf hx hz 1 _ rfl Znw
  obtain ⟨v2,g2,r2⟩:=Qd0 hf hx hz 2 _ rfl opn3
  obtain ⟨v3,g3,r3⟩:=Qd0 hf hx hz 3 _ rfl opn3
  obtain ⟨v4,g4,r4⟩:=Qd0 hf hx hz 4 _ rfl opn3
  obtain ⟨v5,g5,r5⟩:=Qd0 hf hx hz 5 _ rfl opn3
  obtain ⟨v6,g6,r6⟩:=Qd0 hf hx hz 6 _ rfl Zmo
  exact ⟨⟨v0,v1,v2,v3,v4,v5,v6⟩,⟨g0,g1,g2,g3,g4,g5,g6⟩,Qs7 (Qgw (Qgw (Qgw (Qgw (Qgw (Qgw (Qm6 r0) r1 rfl) r2 rfl) r3 rfl) r4 rfl) r5 rfl) r6 rfl) (hl.trans (by kernel_rfl))⟩⟩
theorem Znz:Opn Tryz.prog 24 1 Qt8 Qri:=Qnf Tryz.underlying24 (by kernel_rfl) Znv (by decide) (by kernel_rfl)
theorem Zny:Opn Tryz.prog 26 2 Qhv Zaz:=⟨by kernel_rfl,fun _=>rfl,fun _ _ _ _ _ _ _ _ _ h hw=>by
  obtain ⟨xs,n,_,rfl,hl,hx,hf⟩:=DataW.trod_struct Tryz.underlying26 h
  have hz:=Qkl Tryz.underlying26 hw
  obtain ⟨v0,g0,r0⟩:=Qd0 hf hx hz 0 _ rfl Zn0
  obtain ⟨v1,g1,r1⟩:=Qd0 hf hx hz 1 _ rfl Znz
  exact ⟨⟨v0,v1⟩,⟨g0,g1⟩,Qs7 (Qgw (Qm6 r0) r1 rfl) (hl.trans (by kernel_rfl))⟩⟩
def Qvq (x:GStream):Prop:=Qju x.Mass∧Qju x.Heat∧Qju x.Silica∧Qju x.Gas
def Qtv (x:(List GStream)):Prop:=x.length≤maxLen∧(∀ y ∈ x,Qvq y)∧x.length * 32≤140737488351232
theorem Znt:Opn Tryz.prog 89 4 Qaa Qvq:=⟨by kernel_rfl,fun _=>rfl,fun _ _ _ _ _ _ _ _ _ h hw=>by
  obtain ⟨xs,n,_,rfl,hl,hx,hf⟩:=DataW.trod_struct Tryz.underlying89 h
  have hz:=Qkl Tryz.underlying89 hw
  obtain ⟨v0,g0,r0⟩:=Qd0 hf hx hz 0 _ rfl opn3
  obtain ⟨v1,g1,r1⟩:=Qd0 hf hx hz 1 _ rfl opn3
  obtain ⟨v2,g2,r2⟩:=Qd0 hf hx hz 2 _ rfl opn3
  obtain ⟨v3,g3,r3⟩:=Qd0 hf hx hz 3 _ rfl opn3
  exact ⟨⟨v0,v1,v2,v3⟩,⟨g0,g1,g2,g3⟩,Qs7 (Qgw (Qgw (Qgw (Qm6 r0) r1 rfl) r2 rfl) r3 rfl) (hl.trans (by kernel_rfl))⟩⟩
theorem Znx:Opn Tryz.prog 28 1 Qah Qtv:=Qnf Tryz.underlying28 (by kernel_rfl) Znt (by decide) (by kernel_rfl)
end Go.Proofs.YtmbhnllcfmiajaaGreat
