/-
  The arguments of given statements as lists and numbers. No conditions.
-/
import Derived.Test.YtmbhnllcfmiajaaGreatXt
import Derived.Test.YtmbhnllcfmiajaaGreatEngZ
namespace Go.Proofs.YtmbhnllcfmiajaaGreat
set_option maxRecDepth 100000
open Go.ChangeShapes Go.WideShapes Go.ChangeAt Go.RowKit Go.Deep Go.Joins
def Qjw (x:Int):Prop:=(Lit.int .i64 x).wf=true
def Zax (x:GRow):Prop:=Qjw x.T∧Qjw x.P∧Qjw x.Liquid∧Qjw x.Vapour∧Qjw x.Silica
def Q4x (x:(List GRow)):Prop:=x.length≤maxLen∧(∀ y ∈ x,Zax y)∧x.length * 40≤140737488351232
def Zmo (x:Int):Prop:=(Lit.int .u8 x).wf=true
def Q4y (x:GPort):Prop:=Qjw x.Element∧Qjw x.Outlet
def Qz3 (x:(List GPort)):Prop:=x.length≤maxLen∧(∀ y ∈ x,Q4y y)∧x.length * 16≤140737488351232
def Q2e (x:(List Int)):Prop:=x.length≤maxLen∧(∀ y ∈ x,Qjw y)∧x.length * 8≤140737488351232
def Qt7 (x:GElement):Prop:=Zmo x.Kind∧Qz3 x.From∧Qjw x.Level∧Qjw x.Amount∧Qjw x.Wide∧Qjw x.Narrow∧Q2e x.Weights
def Qrr (x:(List GElement)):Prop:=x.length≤maxLen∧(∀ y ∈ x,Qt7 y)∧x.length * 88≤140737488351232
def Zay (x:GNet):Prop:=Q4x x.Table∧Qrr x.Elements
theorem opn3:Opn Tryz.prog 3 1 Qak Qjw:=Q96 Tryz.underlying3 (by kernel_rfl)
theorem Zml:Opn Tryz.prog 149 5 Qa0 Zax:=⟨by kernel_rfl,fun _=>rfl,fun _ _ _ _ _ _ _ _ _ h hw=>by
  obtain ⟨xs,n,_,rfl,hl,hx,hf⟩:=DataW.trod_struct Tryz.underlying149 h
  have hz:=Qkl Tryz.underlying149 hw
  obtain ⟨v0,g0,r0⟩:=Qdz hf hx hz 0 _ rfl opn3
  obtain ⟨v1,g1,r1⟩:=Qdz hf hx hz 1 _ rfl opn3
  obtain ⟨v2,g2,r2⟩:=Qdz hf hx hz 2 _ rfl opn3
  obtain ⟨v3,g3,r3⟩:=Qdz hf hx hz 3 _ rfl opn3
  obtain ⟨v4,g4,r4⟩:=Qdz hf hx hz 4 _ rfl opn3
  exact ⟨⟨v0,v1,v2,v3,v4⟩,⟨g0,g1,g2,g3,g4⟩,Qth (Qgx (Qgx (Qgx (Qgx (Qm6 r0) r1 rfl) r2 rfl) r3 rfl) r4 rfl) (hl.trans (by kernel_rfl))⟩⟩
theorem Znw:Opn Tryz.prog 23 1 Zbl Q4x:=Qnf Tryz.underlying23 (by kernel_rfl) Zml (by decide) (by kernel_rfl)
theorem opn5:Opn Tryz.prog 5 1 c_u8 Zmo:=Q96 Tryz.underlying5 (by kernel_rfl)
theorem Znq:Opn Tryz.prog 61 2 Qas Q4y:=⟨by kernel_rfl,fun _=>rfl,fun _ _ _ _ _ _ _ _ _ h hw=>by
  obtain ⟨xs,n,_,rfl,hl,hx,hf⟩:=DataW.trod_struct Tryz.underlying61 h
  have hz:=Qkl Tryz.underlying61 hw
  obtain ⟨v0,g0,r0⟩:=Qdz hf hx hz 0 _ rfl opn3
  obtain ⟨v1,g1,r1⟩:=Qdz hf hx hz 1 _ rfl opn3
  exact ⟨⟨v0,v1⟩,⟨g0,g1⟩,Qth (Qgx (Qm6 r0) r1 rfl) (hl.trans (by kernel_rfl))⟩⟩
theorem Zns:Opn Tryz.prog 57 1 Qxy Qz3:=Qnf Tryz.underlying57 (by kernel_rfl) Znq (by decide) (by kernel_rfl)
theorem Zmk:Opn Tryz.prog 27 1 Q5a Q2e:=Qnf Tryz.underlying27 (by kernel_rfl) opn3 (by decide) (by kernel_rfl)
theorem Znr:Opn Tryz.prog 59 7 Qad Qt7:=⟨by kernel_rfl,fun _=>rfl,fun _ _ _ _ _ _ _ _ _ h hw=>by
  obtain ⟨xs,n,_,rfl,hl,hx,hf⟩:=DataW.trod_struct Tryz.underlying59 h
  have hz:=Qkl Tryz.underlying59 hw
  obtain ⟨v0,g0,r0⟩:=Qdz hf hx hz 0 _ rfl opn5
  obtain ⟨v1,g1,r1⟩:=Qdz hf hx hz 1 _ rfl Zns
  obtain ⟨v2,g2,r2⟩:=Qdz hf hx hz 2 _ rfl opn3
  obtain ⟨v3,g3,r3⟩:=Qdz hf hx hz 3 _ rfl opn3
  obtain ⟨v4,g4,r4⟩:=Qdz hf hx hz 4 _ rfl opn3
  obtain ⟨v5,g5,r5⟩:=Qdz hf hx hz 5 _ rfl opn3
  obtain ⟨v6,g6,r6⟩:=Qdz hf hx hz 6 _ rfl Zmk
  exact ⟨⟨v0,v1,v2,v3,v4,v5,v6⟩,⟨g0,g1,g2,g3,g4,g5,g6⟩,Qth (Qgx (Qgx (Qgx (Qgx (Qgx (Qgx (Qm6 r0) r1 rfl) r2 rfl) r3 rfl) r4 rfl) r5 rfl) r6 rfl) (hl.trans (by kernel_rfl))⟩⟩
theorem Znv:Opn Tryz.prog 24 1 Quj Qrr:=Qnf Tryz.underlying24 (by kernel_rfl) Znr (by decide) (by kernel_rfl)
theorem Znu:Opn Tryz.prog 26 2 Qis Zay:=⟨by kernel_rfl,fun _=>rfl,fun _ _ _ _ _ _ _ _ _ h hw=>by
  obtain ⟨xs,n,_,rfl,hl,hx,hf⟩:=DataW.trod_struct Tryz.underlying26 h
  have hz:=Qkl Tryz.underlying26 hw
  obtain ⟨v0,g0,r0⟩:=Qdz hf hx hz 0 _ rfl Znw
  obtain ⟨v1,g1,r1⟩:=Qdz hf hx hz 1 _ rfl Znv
  exact ⟨⟨v0,v1⟩,⟨g0,g1⟩,Qth (Qgx (Qm6 r0) r1 rfl) (hl.trans (by kernel_rfl))⟩⟩
def Qv1 (x:GStream):Prop:=Qjw x.Mass∧Qjw x.Heat∧Qjw x.Silica∧Qjw x.Gas
def Qt6 (x:(List GStream)):Prop:=x.length≤maxLen∧(∀ y ∈ x,Qv1 y)∧x.length * 32≤140737488351232
theorem Znp:Opn Tryz.prog 89 4 Qaa Qv1:=⟨by kernel_rfl,fun _=>rfl,fun _ _ _ _ _ _ _ _ _ h hw=>by
  obtain ⟨xs,n,_,rfl,hl,hx,hf⟩:=DataW.trod_struct Tryz.underlying89 h
  have hz:=Qkl Tryz.underlying89 hw
  obtain ⟨v0,g0,r0⟩:=Qdz hf hx hz 0 _ rfl opn3
  obtain ⟨v1,g1,r1⟩:=Qdz hf hx hz 1 _ rfl opn3
  obtain ⟨v2,g2,r2⟩:=Qdz hf hx hz 2 _ rfl opn3
  obtain ⟨v3,g3,r3⟩:=Qdz hf hx hz 3 _ rfl opn3
  exact ⟨⟨v0,v1,v2,v3⟩,⟨g0,g1,g2,g3⟩,Qth (Qgx (Qgx (Qgx (Qm6 r0) r1 rfl) r2 rfl) r3 rfl) (hl.trans (by kernel_rfl))⟩⟩
theorem Znt:Opn Tryz.prog 28 1 Qaf Qt6:=Qnf Tryz.underlying28 (by kernel_rfl) Znp (by decide) (by kernel_rfl)
end Go.Proofs.YtmbhnllcfmiajaaGreat
