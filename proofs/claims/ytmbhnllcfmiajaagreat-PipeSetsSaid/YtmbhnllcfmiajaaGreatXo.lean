/-
  The arguments of given statements as lists and numbers. No conditions.
-/
import Derived.Test.YtmbhnllcfmiajaaGreatXt
import Derived.Test.YtmbhnllcfmiajaaGreatEngZ
namespace Go.Proofs.YtmbhnllcfmiajaaGreat
set_option maxRecDepth 100000
open Go.ChangeShapes Go.WideShapes Go.ChangeAt Go.RowKit Go.Deep Go.Joins
def Qj5 (x:Int):Prop:=(Lit.int .i64 x).wf=true
def Q5u (x:GRow):Prop:=Qj5 x.T∧Qj5 x.P∧Qj5 x.Liquid∧Qj5 x.Vapour∧Qj5 x.Silica
def Qzp (x:(List GRow)):Prop:=x.length≤maxLen∧(∀ y ∈ x,Q5u y)∧x.length * 40≤140737488351232
def Zhd (x:Int):Prop:=(Lit.int .u8 x).wf=true
def Qzq (x:GPort):Prop:=Qj5 x.Element∧Qj5 x.Outlet
def Qu1 (x:(List GPort)):Prop:=x.length≤maxLen∧(∀ y ∈ x,Qzq y)∧x.length * 16≤140737488351232
def Qxc (x:(List Int)):Prop:=x.length≤maxLen∧(∀ y ∈ x,Qj5 y)∧x.length * 8≤140737488351232
def Qqf (x:GElement):Prop:=Zhd x.Kind∧Qu1 x.From∧Qj5 x.Level∧Qj5 x.Amount∧Qj5 x.Wide∧Qj5 x.Narrow∧Qxc x.Weights
def Qom (x:(List GElement)):Prop:=x.length≤maxLen∧(∀ y ∈ x,Qqf y)∧x.length * 88≤140737488351232
def Q5v (x:GNet):Prop:=Qzp x.Table∧Qom x.Elements
theorem opn3:Opn Tryz.prog 3 1 Qaj Qj5:=Q48 Tryz.underlying3 (by kernel_rfl)
theorem Zg9:Opn Tryz.prog 149 5 Qau Q5u:=⟨by kernel_rfl,fun _=>rfl,fun _ _ _ _ _ _ _ _ _ h hw=>by
  obtain ⟨xs,n,_,rfl,hl,hx,hf⟩:=DataW.trod_struct Tryz.underlying149 h
  have hz:=Qj9 Tryz.underlying149 hw
  obtain ⟨v0,g0,r0⟩:=Qei hf hx hz 0 _ rfl opn3
  obtain ⟨v1,g1,r1⟩:=Qei hf hx hz 1 _ rfl opn3
  obtain ⟨v2,g2,r2⟩:=Qei hf hx hz 2 _ rfl opn3
  obtain ⟨v3,g3,r3⟩:=Qei hf hx hz 3 _ rfl opn3
  obtain ⟨v4,g4,r4⟩:=Qei hf hx hz 4 _ rfl opn3
  exact ⟨⟨v0,v1,v2,v3,v4⟩,⟨g0,g1,g2,g3,g4⟩,Qs2 (Qgo (Qgo (Qgo (Qgo (Qmy r0) r1 rfl) r2 rfl) r3 rfl) r4 rfl) (hl.trans (by kernel_rfl))⟩⟩
theorem Ziq:Opn Tryz.prog 23 1 Q6g Qzp:=Qm6 Tryz.underlying23 (by kernel_rfl) Zg9 (by decide) (by kernel_rfl)
theorem opn5:Opn Tryz.prog 5 1 c_u8 Zhd:=Q48 Tryz.underlying5 (by kernel_rfl)
theorem Zil:Opn Tryz.prog 61 2 Qar Qzq:=⟨by kernel_rfl,fun _=>rfl,fun _ _ _ _ _ _ _ _ _ h hw=>by
  obtain ⟨xs,n,_,rfl,hl,hx,hf⟩:=DataW.trod_struct Tryz.underlying61 h
  have hz:=Qj9 Tryz.underlying61 hw
  obtain ⟨v0,g0,r0⟩:=Qei hf hx hz 0 _ rfl opn3
  obtain ⟨v1,g1,r1⟩:=Qei hf hx hz 1 _ rfl opn3
  exact ⟨⟨v0,v1⟩,⟨g0,g1⟩,Qs2 (Qgo (Qmy r0) r1 rfl) (hl.trans (by kernel_rfl))⟩⟩
theorem Zin:Opn Tryz.prog 57 1 Qpd Qu1:=Qm6 Tryz.underlying57 (by kernel_rfl) Zil (by decide) (by kernel_rfl)
theorem Zg8:Opn Tryz.prog 27 1 Qz1 Qxc:=Qm6 Tryz.underlying27 (by kernel_rfl) opn3 (by decide) (by kernel_rfl)
theorem Zim:Opn Tryz.prog 59 7 Qab Qqf:=⟨by kernel_rfl,fun _=>rfl,fun _ _ _ _ _ _ _ _ _ h hw=>by
  obtain ⟨xs,n,_,rfl,hl,hx,hf⟩:=DataW.trod_struct Tryz.underlying59 h
  have hz:=Qj9 Tryz.underlying59 hw
  obtain ⟨v0,g0,r0⟩:=Qei hf hx hz 0 _ rfl opn5
  obtain ⟨v1,g1,r1⟩:=Qei hf hx hz 1 _ rfl Zin
  obtain ⟨v2,g2,r2⟩:=Qei hf hx hz 2 _ rfl opn3
  obtain ⟨v3,g3,r3⟩:=Qei hf hx hz 3 _ rfl opn3
  obtain ⟨v4,g4,r4⟩:=Qei hf hx hz 4 _ rfl opn3
  obtain ⟨v5,g5,r5⟩:=Qei hf hx hz 5 _ rfl opn3
  obtain ⟨v6,g6,r6⟩:=Qei hf hx hz 6 _ rfl Zg8
  exact ⟨⟨v0,v1,v2,v3,v4,v5,v6⟩,⟨g0,g1,g2,g3,g4,g5,g6⟩,Qs2 (Qgo (Qgo (Qgo (Qgo (Qgo (Qgo (Qmy r0) r1 rfl) r2 rfl) r3 rfl) r4 rfl) r5 rfl) r6 rfl) (hl.trans (by kernel_rfl))⟩⟩
theorem Zip:Opn Tryz.prog 24 1 Qqq Qom:=Qm6 Tryz.underlying24 (by kernel_rfl) Zim (by decide) (by kernel_rfl)
theorem Zio:Opn Tryz.prog 26 2 Qgn Q5v:=⟨by kernel_rfl,fun _=>rfl,fun _ _ _ _ _ _ _ _ _ h hw=>by
  obtain ⟨xs,n,_,rfl,hl,hx,hf⟩:=DataW.trod_struct Tryz.underlying26 h
  have hz:=Qj9 Tryz.underlying26 hw
  obtain ⟨v0,g0,r0⟩:=Qei hf hx hz 0 _ rfl Ziq
  obtain ⟨v1,g1,r1⟩:=Qei hf hx hz 1 _ rfl Zip
  exact ⟨⟨v0,v1⟩,⟨g0,g1⟩,Qs2 (Qgo (Qmy r0) r1 rfl) (hl.trans (by kernel_rfl))⟩⟩
end Go.Proofs.YtmbhnllcfmiajaaGreat
