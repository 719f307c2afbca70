/-
  The arguments of given statements as lists and numbers. No conditions.
-/
import Derived.Test.YtmbhnllcfmiajaaGreatXt
import Derived.Test.YtmbhnllcfmiajaaGreatEngZ
namespace Go.Proofs.YtmbhnllcfmiajaaGreat
set_option maxRecDepth 100000
open Go.ChangeShapes Go.WideShapes Go.ChangeAt Go.RowKit Go.Deep Go.Joins
def Qi5 (x:Int):Prop:=(Lit.int .i64 x).wf=true
def Q9j (x:GRow):Prop:=Qi5 x.T∧Qi5 x.P∧Qi5 x.Liquid∧Qi5 x.Vapour∧Qi5 x.Silica
def Q2n (x:(List GRow)):Prop:=x.length≤maxLen∧(∀ y ∈ x,Q9j y)∧x.length * 40≤140737488351232
def Zmb (x:Int):Prop:=(Lit.int .u8 x).wf=true
def Q2o (x:GPort):Prop:=Qi5 x.Element∧Qi5 x.Outlet
def Qxp (x:(List GPort)):Prop:=x.length≤maxLen∧(∀ y ∈ x,Q2o y)∧x.length * 16≤140737488351232
def Qz3 (x:(List Int)):Prop:=x.length≤maxLen∧(∀ y ∈ x,Qi5 y)∧x.length * 8≤140737488351232
def Qry (x:GElement):Prop:=Zmb x.Kind∧Qxp x.From∧Qi5 x.Level∧Qi5 x.Amount∧Qi5 x.Wide∧Qi5 x.Narrow∧Qz3 x.Weights
def Qpw (x:(List GElement)):Prop:=x.length≤maxLen∧(∀ y ∈ x,Qry y)∧x.length * 88≤140737488351232
def Q9k (x:GNet):Prop:=Q2n x.Table∧Qpw x.Elements
theorem opn3:Opn Tryz.prog 3 1 Qak Qi5:=Qzt Tryz.underlying3 (by kernel_rfl)
theorem Zl9:Opn Tryz.prog 149 5 Qa1 Q9j:=⟨by kernel_rfl,fun _=>rfl,fun _ _ _ _ _ _ _ _ _ h hw=>by
  obtain ⟨xs,n,_,rfl,hl,hx,hf⟩:=DataW.trod_struct Tryz.underlying149 h
  have hz:=Qjt Tryz.underlying149 hw
  obtain ⟨v0,g0,r0⟩:=Qdw hf hx hz 0 _ rfl opn3
  obtain ⟨v1,g1,r1⟩:=Qdw hf hx hz 1 _ rfl opn3
  obtain ⟨v2,g2,r2⟩:=Qdw hf hx hz 2 _ rfl opn3
  obtain ⟨v3,g3,r3⟩:=Qdw hf hx hz 3 _ rfl opn3
  obtain ⟨v4,g4,r4⟩:=Qdw hf hx hz 4 _ rfl opn3
  exact ⟨⟨v0,v1,v2,v3,v4⟩,⟨g0,g1,g2,g3,g4⟩,Qra (Qgg (Qgg (Qgg (Qgg (Qlu r0) r1 rfl) r2 rfl) r3 rfl) r4 rfl) (hl.trans (by kernel_rfl))⟩⟩
theorem Znq:Opn Tryz.prog 23 1 Q96 Q2n:=Qly Tryz.underlying23 (by kernel_rfl) Zl9 (by decide) (by kernel_rfl)
theorem opn5:Opn Tryz.prog 5 1 c_u8 Zmb:=Qzt Tryz.underlying5 (by kernel_rfl)
theorem Znk:Opn Tryz.prog 61 2 Qar Q2o:=⟨by kernel_rfl,fun _=>rfl,fun _ _ _ _ _ _ _ _ _ h hw=>by
  obtain ⟨xs,n,_,rfl,hl,hx,hf⟩:=DataW.trod_struct Tryz.underlying61 h
  have hz:=Qjt Tryz.underlying61 hw
  obtain ⟨v0,g0,r0⟩:=Qdw hf hx hz 0 _ rfl opn3
  obtain ⟨v1,g1,r1⟩:=Qdw hf hx hz 1 _ rfl opn3
  exact ⟨⟨v0,v1⟩,⟨g0,g1⟩,Qra (Qgg (Qlu r0) r1 rfl) (hl.trans (by kernel_rfl))⟩⟩
theorem Znm:Opn Tryz.prog 57 1 Qvw Qxp:=Qly Tryz.underlying57 (by kernel_rfl) Znk (by decide) (by kernel_rfl)
theorem Zl8:Opn Tryz.prog 27 1 Q95 Qz3:=Qly Tryz.underlying27 (by kernel_rfl) opn3 (by decide) (by kernel_rfl)
theorem Znl:Opn Tryz.prog 59 7 Qab Qry:=⟨by kernel_rfl,fun _=>rfl,fun _ _ _ _ _ _ _ _ _ h hw=>by
  obtain ⟨xs,n,_,rfl,hl,hx,hf⟩:=DataW.trod_struct Tryz.underlying59 h
  have hz:=Qjt Tryz.underlying59 hw
  obtain ⟨v0,g0,r0⟩:=Qdw hf hx hz 0 _ rfl opn5
  obtain ⟨v1,g1,r1⟩:=Qdw hf hx hz 1 _ rfl Znm
  obtain ⟨v2,g2,r2⟩:=Qdw hf hx hz 2 _ rfl opn3
  obtain ⟨v3,g3,r3⟩:=Qdw hf hx hz 3 _ rfl opn3
  obtain ⟨v4,g4,r4⟩:=Qdw hf hx hz 4 _ rfl opn3
  obtain ⟨v5,g5,r5⟩:=Qdw hf hx hz 5 _ rfl opn3
  obtain ⟨v6,g6,r6⟩:=Qdw hf hx hz 6 _ rfl Zl8
  exact ⟨⟨v0,v1,v2,v3,v4,v5,v6⟩,⟨g0,g1,g2,g3,g4,g5,g6⟩,Qra (Qgg (Qgg (Qgg (Qgg (Qgg (Qgg (Qlu r0) r1 rfl) r2 rfl) r3 rfl) r4 rfl) r5 rfl) r6 rfl) (hl.trans (by kernel_rfl))⟩⟩
theorem Znp:Opn Tryz.prog 24 1 Qsa Qpw:=Qly Tryz.underlying24 (by kernel_rfl) Znl (by decide) (by kernel_rfl)
theorem Zno:Opn Tryz.prog 26 2 Qh9 Q9k:=⟨by kernel_rfl,fun _=>rfl,fun _ _ _ _ _ _ _ _ _ h hw=>by
  obtain ⟨xs,n,_,rfl,hl,hx,hf⟩:=DataW.trod_struct Tryz.underlying26 h
  have hz:=Qjt Tryz.underlying26 hw
  obtain ⟨v0,g0,r0⟩:=Qdw hf hx hz 0 _ rfl Znq
  obtain ⟨v1,g1,r1⟩:=Qdw hf hx hz 1 _ rfl Znp
  exact ⟨⟨v0,v1⟩,⟨g0,g1⟩,Qra (Qgg (Qlu r0) r1 rfl) (hl.trans (by kernel_rfl))⟩⟩
def Qtu (x:GStream):Prop:=Qi5 x.Mass∧Qi5 x.Heat∧Qi5 x.Silica∧Qi5 x.Gas
def Qrx (x:(List GStream)):Prop:=x.length≤maxLen∧(∀ y ∈ x,Qtu y)∧x.length * 32≤140737488351232
theorem Znj:Opn Tryz.prog 89 4 Qac Qtu:=⟨by kernel_rfl,fun _=>rfl,fun _ _ _ _ _ _ _ _ _ h hw=>by
  obtain ⟨xs,n,_,rfl,hl,hx,hf⟩:=DataW.trod_struct Tryz.underlying89 h
  have hz:=Qjt Tryz.underlying89 hw
  obtain ⟨v0,g0,r0⟩:=Qdw hf hx hz 0 _ rfl opn3
  obtain ⟨v1,g1,r1⟩:=Qdw hf hx hz 1 _ rfl opn3
  obtain ⟨v2,g2,r2⟩:=Qdw hf hx hz 2 _ rfl opn3
  obtain ⟨v3,g3,r3⟩:=Qdw hf hx hz 3 _ rfl opn3
  exact ⟨⟨v0,v1,v2,v3⟩,⟨g0,g1,g2,g3⟩,Qra (Qgg (Qgg (Qgg (Qlu r0) r1 rfl) r2 rfl) r3 rfl) (hl.trans (by kernel_rfl))⟩⟩
theorem Znn:Opn Tryz.prog 28 1 Qam Qrx:=Qly Tryz.underlying28 (by kernel_rfl) Znj (by decide) (by kernel_rfl)
end Go.Proofs.YtmbhnllcfmiajaaGreat
