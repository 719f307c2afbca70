/-
  The texts PV6, PSb6, PSc6, PN6, POpn, PE6, PTa6, PTb6, PTc6, EngOb, X7, PRf6, PRs6, PSt6, PRd6, PKo6, PNet, PFt6, X14 of the proof, one behind the other. No conditions.
-/
import Derived.Test.YtmbhnllcfmiajaaGreatG4
namespace Go.Proofs.YtmbhnllcfmiajaaGreat
open _root_.Go.Proofs.Tryz
section
open Go.RowKit
theorem Q3v {α:Type}{F:Nat→Int→Option Int}{p:List α}{q:α→Option Bool}{b:α→Bool}{k:Unit→Option Int}
  (h:∀n y,F (n+1) y=bif decide (y<(p.length:Int)) then(getI p y).bind fun x=>(q x).bind fun c=>bif c then some y else F n (w64 (y+1)) else k ())
  (hq:∀x,q x=some (b x)) (hk:k ()=some (-1)) (hl:p.length≤1000000):∀(n i:Nat),(p.drop i).length<n→(F n i).bind (fun x=>some (decide (x≥0)))=some ((p.drop i).any b):=by
 intro n
 induction n with
 |zero=>intro i h;exact absurd h (Nat.not_lt_zero _)
 |succ n ih=>
  intro i hn
  rw[h]
  cases hd:p.drop i with
  |nil=>
   have:=Qb4 hd
   rw[show decide ((i:Int)<(p.length:Int))=false by simp;omega,cond_false,hk]
   rfl
  |cons a l=>
   obtain⟨h1,h2,h3⟩:=Qbs hd
   rw[show decide ((i:Int)<(p.length:Int))=true by simp;omega,cond_true,Qb6 h1,Option.bind_some,hq,Option.bind_some]
   cases hb:b a with
   |true=>simp[hb]
   |false=>
    rw[cond_false,show w64 ((i:Int)+1)=((i+1:Nat):Int) by rw[Qbm]<;>omega,ih (i+1) (by rw[h2];rw[hd] at hn;simp at hn;omega),h2]
    simp[hb]
theorem Qjw {α:Type}{F:Nat→Int→Option Int}{p:List α}{q:α→Option Bool}{b:α→Bool}{k:Unit→Option Int}{N:Nat}
  (h:∀n y,F (n+1) y=bif decide (y<(p.length:Int)) then(getI p y).bind fun x=>(q x).bind fun c=>bif c then some y else F n (w64 (y+1)) else k ())
  (hq:∀x,q x=some (b x)) (hk:k ()=some (-1)) (hl:p.length≤1000000) (hN:p.length<N):(F N 0).bind (fun x=>some (decide (x≥0)))=some (p.any b):=by
 have:=Q3v h hq hk hl N 0 (by simpa using hN)
 simpa using this
theorem Qjo (N:Nat) (a lo hi:Int):Qc7 N a lo hi=some (btw a lo hi):=by
 unfold Qc7 btw
 by_cases h:lo≤a<;>simp[h]
theorem Qxs {α:Type}(l:List α) (b:α→Bool):(!l.any fun x=>!b x)=l.all b:=by
 induction l with
 |nil=>rfl
 |cons a l ih=>simp only[List.any_cons,List.all_cons,Bool.not_or,Bool.not_not,ih]
def wtsB (w:List Int):Bool:=btw w.length 1 20&&(w.all (fun x=>btw x 0 1000)&&w.any fun x=>decide (x>0))
def outl (x:Qad):Int:=if x.Kind=4 then 2 else if x.Kind=5 then x.Weights.length else 1
def Qi6 (x:Qad):Bool:=
 btw x.Kind 1 6&&btw x.Wide 0 1000000&&btw x.Narrow 1 1000000000&&btw x.From.length (if x.Kind=1 then 0 else 1) (if x.Kind=1 then 0 else if x.Kind=2 then 6 else 1) &&
 btw x.Amount 0 (if x.Kind=3 then 1000000000 else if x.Kind=4 then 1000 else 0)&&(if x.Kind=5 then wtsB x.Weights else decide (x.Weights.length=0))
theorem Zs2 {N:Nat}{w:List Int}(hl:w.length≤1000) (hN:1001≤N):Qhs N w=some (w.all fun x=>btw x 0 1000):=by
 have hc:Qds N w=some (w.any fun x=>!btw x 0 1000):=by
  unfold Qds Qfa Qbn
  refine Qjw (F:=Qcl N w fun _=>some (-1)) (k:=fun _=>some (-1)) (q:=Qhr N) (fun n y=>rfl) (fun x=>?_) rfl (by omega) (by omega)
  simp only[Qhr,Qg5,Qjo,Option.bind_some]
 unfold Qhs
 rw[hc,Option.bind_some,Qxs]
theorem Zs1 {N:Nat}{w:List Int}(hl:w.length≤1000) (hN:1001≤N):Qc6 N w=some (w.any fun x=>decide (x>0)):=by
 unfold Qc6 Qe9 Qbn
 exact Qjw (F:=Qck N w fun _=>some (-1)) (k:=fun _=>some (-1)) (q:=Qg4 N) (fun n y=>rfl) (fun x=>rfl) rfl (by omega) (by omega)
theorem Zil {N:Nat}{x:Qad}(hw:x.Weights.length≤1000) (hN:1001≤N):Qgm N x=some (Qi6 x):=by
 have key:∀(a b:Int),(bif ((x.From.length:Int) != a) then some false else
   (Qc7 N x.Amount 0 b).bind fun x16=>bif (!x16) then some false else(Qc7 N x.Wide 0 1000000).bind fun x19=>bif (!x19) then some false else
    (Qc7 N x.Narrow 1 1000000000).bind fun x22=>bif (!x22) then some false else
    bif (x.Kind != 5) then some ((x.Weights.length:Int)==0) else(Qc7 N (x.Weights.length:Int) 1 20).bind fun x7=>bif x7 then(Qhs N x.Weights).bind fun x10=>
    bif x10 then(Qc6 N x.Weights).bind fun x13=>some x13 else some false else some false) =
   some (decide ((x.From.length:Int)=a)&&btw x.Amount 0 b&&btw x.Wide 0 1000000&&btw x.Narrow 1 1000000000&&(if x.Kind=5 then wtsB x.Weights else decide (x.Weights.length=0))):=fun a b=>by
  simp only[Qjo,Zs2 hw hN,Zs1 hw hN,Option.bind_some]
  by_cases h1:(x.From.length:Int)=a
  ·rw[show((x.From.length:Int) != a)=false by simpa using h1,cond_false,decide_eq_true h1]
   cases btw x.Amount 0 b<;>cases btw x.Wide 0 1000000<;>cases btw x.Narrow 1 1000000000<;>simp only[Bool.not_true,Bool.not_false,cond_true,cond_false,Bool.and_true,Bool.true_and,Bool.false_and,Bool.and_false]
   by_cases h5:x.Kind=5
   ·rw[show(x.Kind != 5)=false by simpa using h5,if_pos h5,wtsB]
    cases btw x.Weights.length 1 20<;>cases (x.Weights.all fun x=>btw x 0 1000)<;>cases (x.Weights.any fun x=>decide (x>0))<;>rfl
   ·rw[show(x.Kind != 5)=true by simpa using h5,if_neg h5,cond_true]
    congr 1
    by_cases h0:x.Weights.length=0
    ·rw[h0];rfl
    ·rw[decide_eq_false h0,beq_eq_false_iff_ne];omega
  ·rw[show((x.From.length:Int) != a)=true by simpa using h1,cond_true,decide_eq_false h1]
   simp
 unfold Qgm Qi6
 simp only[Qbn]
 simp only[key]
 have hkd:∀a b:Int,decide (((x.From.length:Int))=a)=btw x.From.length a a:=fun a _=>by
  unfold btw
  by_cases h:(x.From.length:Int)=a
  ·rw[h];simp
  ·rw[decide_eq_false h]
   symm
   rw[Bool.and_eq_false_iff,decide_eq_false_iff_not,decide_eq_false_iff_not];omega
 have fin:∀(a b c d e:Bool),some (a&&b&&c&&d&&e)=some (true&&c&&d&&a&&b&&e):=by
  intro a b c d e;cases a<;>cases b<;>cases c<;>cases d<;>rfl
 by_cases h1:x.Kind=1
 ·rw[h1]
  simp only[beq_self_eq_true,cond_true,hkd 0 0]
  exact fin _ _ _ _ _
 ·have b1:(x.Kind==1)=false:=by simpa using h1
  by_cases h2:x.Kind=2
  ·rw[h2]
   have e:∀c:Int,decide (((x.From.length:Int))=(if (if (6:Int)<x.From.length then 6 else(x.From.length:Int))>1 then(if (6:Int)<x.From.length then 6 else(x.From.length:Int)) else 1))=btw x.From.length 1 6:=fun _=>by
    unfold btw
    by_cases h6:(6:Int)<x.From.length
    ·rw[if_pos h6,if_pos (by decide),decide_eq_false (by omega)]
     symm;rw[Bool.and_eq_false_iff,decide_eq_false_iff_not,decide_eq_false_iff_not];omega
    ·rw[if_neg h6]
     by_cases h7:(x.From.length:Int)>1
     ·rw[if_pos h7];simp;omega
     ·rw[if_neg h7]
      by_cases h8:(x.From.length:Int)=1
      ·rw[h8];rfl
      ·rw[decide_eq_false h8]
       symm;rw[Bool.and_eq_false_iff,decide_eq_false_iff_not,decide_eq_false_iff_not];omega
   simp only[show((2:Int)==1)=false from rfl,beq_self_eq_true,cond_true,cond_false,Option.bind_some,e 0]
   exact fin _ _ _ _ _
  ·have b2:(x.Kind==2)=false:=by simpa using h2
   by_cases h3:x.Kind=3
   ·rw[h3]
    simp only[show((3:Int)==1)=false from rfl,show((3:Int)==2)=false from rfl,beq_self_eq_true,cond_true,cond_false,hkd 1 0]
    exact fin _ _ _ _ _
   ·have b3:(x.Kind==3)=false:=by simpa using h3
    by_cases h4:x.Kind=4
    ·rw[h4]
     simp only[show((4:Int)==1)=false from rfl,show((4:Int)==2)=false from rfl,show((4:Int)==3)=false from rfl,beq_self_eq_true,cond_true,cond_false,hkd 1 0]
     exact fin _ _ _ _ _
    ·have b4:(x.Kind==4)=false:=by simpa using h4
     by_cases h5:x.Kind=5
     ·rw[h5]
      simp only[show((5:Int)==1)=false from rfl,show((5:Int)==2)=false from rfl,show((5:Int)==3)=false from rfl,show((5:Int)==4)=false from rfl,beq_self_eq_true,cond_true,cond_false,hkd 1 0]
      exact fin _ _ _ _ _
     ·have b5:(x.Kind==5)=false:=by simpa using h5
      by_cases h6:x.Kind=6
      ·rw[h6]
       simp only[show((6:Int)==1)=false from rfl,show((6:Int)==2)=false from rfl,show((6:Int)==3)=false from rfl,show((6:Int)==4)=false from rfl,show((6:Int)==5)=false from rfl,beq_self_eq_true,cond_true,cond_false,hkd 1 0]
       exact fin _ _ _ _ _
      ·have b6:(x.Kind==6)=false:=by simpa using h6
       simp only[b1,b2,b3,b4,b5,b6,cond_false]
       have:btw x.Kind 1 6=false:=by
        unfold btw
        rw[Bool.and_eq_false_iff,decide_eq_false_iff_not,decide_eq_false_iff_not];omega
       rw[this];simp
theorem Zjl {N:Nat}(w:List Int) (k:Int→Option Bool) (hl:w.length≤1000):∀(n i:Nat) (s:Int),(w.drop i).length<n→0≤s→s≤1000*i →
  Qdj N w k n s i=bif (w.drop i).all (fun x=>btw x 0 1000) then k (s+(w.drop i).sum) else some false:=by
 intro n
 induction n with
 |zero=>intro i _ h;exact absurd h (Nat.not_lt_zero _)
 |succ n ih=>
  intro i s h h0 h1
  rw[Qdj]
  cases hd:w.drop i with
  |nil=>
   have:=Qb4 hd
   simp[show ¬((i:Int)<w.length) from by omega]
  |cons a l=>
   obtain⟨hg,hd',hlt⟩:=Qbs hd
   simp only[show decide ((i:Int)<w.length)=true from by simpa using hlt,cond_true,Qb6 hg,Option.bind_some,Q57,List.all_cons]
   cases hb:btw a 0 1000 with
   |false=>rfl
   |true=>
    have hb':=Qga.1 hb
    simp only[Bool.not_true,cond_false,Bool.true_and,List.sum_cons]
    rw[Qbm (x:=(i:Int)+1) (by omega) (by omega),Qbm (x:=s+a) (by omega) (by omega),show(i:Int)+1=((i+1:Nat):Int) by omega,ih (i+1) (s+a) (by rw[hd'];rw[hd] at h;simp at h;omega) (by omega) (by omega),hd',Int.add_assoc]
theorem Q5l {w:List Int}(h:∀x∈w,0≤x):0≤w.sum∧(w.sum>0↔∃x∈w,x>0):=by
 induction w with
 |nil=>simp
 |cons a l ih=>
  obtain⟨h1,h2⟩:=ih fun x hx=>h x (List.mem_cons_of_mem _ hx)
  have ha:=h a List.mem_cons_self
  simp only[List.sum_cons,List.mem_cons,exists_eq_or_imp]
  refine⟨by omega,⟨fun hs=>?_,fun hs=>?_⟩⟩
  ·by_cases h3:a>0
   ·exact .inl h3
   ·exact .inr (h2.1 (by omega))
  ·rcases hs with hs |hs
   ·omega
   ·have:=h2.2 hs;omega
theorem Zfz {N:Nat}{w:List Int}(hl:w.length≤1000) (hN:1001≤N):Qgj N w=some (wtsB w):=by
 unfold Qgj wtsB
 simp only[Qbn]
 have:=Zjl (N:=N) w (fun y1=>bif (decide ((w.length:Int)≤20)) then some (decide (y1>0)) else some false) hl N 0 0 (by simp;omega) (by omega) (by omega)
 rw[List.drop_zero,Int.zero_add] at this
 refine this.trans ?_
 cases ha:w.all fun x=>btw x 0 1000 with
 |false=>simp
 |true=>
  have ha':∀x∈w,0≤x:=fun x hx=>(Qga.1 (List.all_eq_true.1 ha x hx)).1
  have hs:=(Q5l ha').2
  have e:(w.any fun x=>decide (x>0))=decide (w.sum>0):=by
   by_cases h:w.sum>0
   ·rw[decide_eq_true h,List.any_eq_true]
    obtain⟨x,h1,h2⟩:=hs.1 h
    exact⟨x,h1,by simpa using h2⟩
   ·rw[decide_eq_false h]
    rw[List.any_eq_false]
    exact fun x hx h2=>h (hs.2 ⟨x,hx,by simpa using h2⟩)
  rw[e,cond_true,Bool.true_and]
  by_cases h1:w.length=0
  ·have:w=[]:=List.length_eq_zero_iff.1 h1
   subst this
   rfl
  ·by_cases h2:(w.length:Int)≤20
   ·rw[show btw (w.length:Int) 1 20=true from Qga.2 ⟨by omega,h2⟩,decide_eq_true h2];rfl
   ·rw[show btw (w.length:Int) 1 20=false by unfold btw;rw[decide_eq_false h2,Bool.and_false],decide_eq_false h2];rfl
theorem Zik {N:Nat}{x:Qad}(hw:x.Weights.length≤1000) (hN:1001≤N):Qlj N x=some (Qi6 x):=by
 unfold Qlj Qi6
 simp only[Qbn,Q57,Zfz hw hN,Option.bind_some]
 have hk:btw x.Kind 1 6=(!decide (x.Kind<1)&&!decide (x.Kind>6)):=by
  unfold btw
  by_cases h1:x.Kind<1
  ·rw[decide_eq_true h1,decide_eq_false (by omega)];rfl
  ·by_cases h2:x.Kind>6
   ·rw[decide_eq_true h2,decide_eq_false (show ¬x.Kind≤6 by omega)];simp
   ·rw[decide_eq_false h1,decide_eq_false h2,decide_eq_true (by omega),decide_eq_true (by omega)];rfl
 have hw0:((x.Weights.length:Int)==0)=decide (x.Weights.length=0):=by
  by_cases h0:x.Weights.length=0
  ·rw[h0];rfl
  ·rw[decide_eq_false h0,beq_eq_false_iff_ne];omega
 have fin2:∀(a b c:Bool),(bif !a then some false else bif !b then some false else some c)=some (a&&b&&c):=by
  intro a b c;cases a<;>cases b<;>cases c<;>rfl
 rw[hk,hw0]
 cases decide (x.Kind<1) with
 |true=>rfl
 |false=>
  cases decide (x.Kind>6) with
  |true=>rfl
  |false=>
   simp only[cond_false,Bool.not_false,Bool.true_and]
   cases btw x.Wide 0 1000000 with
   |false=>rfl
   |true=>
    cases btw x.Narrow 1 1000000000 with
    |false=>rfl
    |true=>
     simp only[Bool.not_true,cond_false,Bool.true_and]
     by_cases h1:x.Kind=1
     ·rw[h1]
      simp only[beq_self_eq_true,cond_true,show((1:Int)==2)=false from rfl,show((1:Int)==3)=false from rfl,show((1:Int)==4)=false from rfl,show((1:Int)==5)=false from rfl,cond_false]
      exact fin2 _ _ _
     ·have b1:(x.Kind==1)=false:=by simpa using h1
      simp only[b1,cond_false,if_neg h1]
      by_cases h2:x.Kind=2
      ·rw[h2]
       simp only[beq_self_eq_true,cond_true,show((2:Int)==3)=false from rfl,show((2:Int)==4)=false from rfl,show((2:Int)==5)=false from rfl,cond_false]
       exact fin2 _ _ _
      ·have b2:(x.Kind==2)=false:=by simpa using h2
       simp only[b2,cond_false,if_neg h2]
       by_cases h3:x.Kind=3
       ·rw[h3]
        simp only[beq_self_eq_true,cond_true,show((3:Int)==4)=false from rfl,show((3:Int)==5)=false from rfl,cond_false]
        exact fin2 _ _ _
       ·have b3:(x.Kind==3)=false:=by simpa using h3
        simp only[b3,cond_false,if_neg h3]
        by_cases h4:x.Kind=4
        ·rw[h4]
         simp only[beq_self_eq_true,cond_true,show((4:Int)==5)=false from rfl,cond_false]
         exact fin2 _ _ _
        ·have b4:(x.Kind==4)=false:=by simpa using h4
         simp only[b4,cond_false,if_neg h4]
         by_cases h5:x.Kind=5
         ·rw[h5]
          simp only[beq_self_eq_true,cond_true]
          exact fin2 _ _ _
         ·have b5:(x.Kind==5)=false:=by simpa using h5
          simp only[b5,cond_false,if_neg h5]
          exact fin2 _ _ _
theorem Zga (N:Nat) (x:Qad):Qe0 N x=some (outl x):=by
 unfold Qe0 outl
 by_cases h4:x.Kind=4
 ·rw[h4];rfl
 ·by_cases h5:x.Kind=5
  ·rw[h5];rfl
  ·rw[show(x.Kind==4)=false by simpa using h4,show(x.Kind==5)=false by simpa using h5,if_neg h4,if_neg h5];rfl
theorem Zrd (N:Nat) (x:Qad):Qji N x=some (outl x):=by
 unfold Qji outl
 by_cases h4:x.Kind=4
 ·rw[h4];rfl
 ·by_cases h5:x.Kind=5
  ·rw[h5];rfl
  ·rw[show(x.Kind==4)=false by simpa using h4,show(x.Kind==5)=false by simpa using h5,if_neg h4,if_neg h5];rfl
end
section
open Go.RowKit
def Qx4 (key:Int→Int) (ls:List Int) (mk:List Bool):Nat→Int
 |0=>-1
 |d+1=>if mk.getD d false=false∧(Qx4 key ls mk d<0∨key (ls.getD (Qx4 key ls mk d).toNat 0)<key (ls.getD d 0)) then d else Qx4 key ls mk d
theorem Qzb (key:Int→Int) (ls:List Int) (mk:List Bool):∀d,((∀i,i<d→mk.getD i false=true)∧Qx4 key ls mk d=-1) ∨
  ∃b:Nat,b<d∧Qx4 key ls mk d=b∧mk.getD b false=false∧∀i:Nat,i<d→mk.getD i false=false→i=b∨Ql2 key ls b i
 |0=>.inl ⟨fun i h=>absurd h (by omega),rfl⟩
 |d+1=>by
  unfold Qx4
  rcases Qzb key ls mk d with ⟨h1,h2⟩ |⟨b,hb,h2,h3,h4⟩
  ·rw[h2]
   cases hm:mk.getD d false with
   |true=>exact .inl ⟨fun i hi=>(Nat.lt_succ_iff_lt_or_eq.1 hi).elim (h1 i) (fun e=>e▸hm),by rw[if_neg (by simp)]⟩
   |false=>
    rw[if_pos ⟨rfl,.inl (by omega)⟩]
    refine .inr ⟨d,by omega,rfl,hm,fun i hi hn=>?_⟩
    rcases Nat.lt_succ_iff_lt_or_eq.1 hi with h |h
    ·rw[h1 i h] at hn;exact absurd hn (by simp)
    ·exact .inl h
  ·rw[h2]
   by_cases hc:mk.getD d false=false∧((b:Int)<0∨key (ls.getD (b:Int).toNat 0)<key (ls.getD d 0))
   ·rw[if_pos hc]
    have hk:key (ls.getD b 0)<key (ls.getD d 0):=hc.2.elim (fun h=>by omega) (fun h=>by simpa using h)
    refine .inr ⟨d,by omega,rfl,hc.1,fun i hi hn=>?_⟩
    rcases Nat.lt_succ_iff_lt_or_eq.1 hi with h |h
    ·rcases h4 i h hn with rfl |h5
     ·exact .inr (.inl (by simpa using hk))
     ·refine .inr (.inl ?_)
      unfold Ql2 at h5
      simp only[Int.toNat_natCast] at h5 ⊢
      omega
    ·exact .inl h
   ·rw[if_neg hc]
    refine .inr ⟨b,by omega,rfl,h3,fun i hi hn=>?_⟩
    rcases Nat.lt_succ_iff_lt_or_eq.1 hi with h |rfl
    ·exact h4 i h hn
    ·refine .inr ?_
     have:¬key (ls.getD (b:Int).toNat 0)<key (ls.getD i 0):=fun h=>hc ⟨hn,.inr h⟩
     unfold Ql2
     simp only[Int.toNat_natCast] at this ⊢
     omega
theorem Zbo {key:Int→Int}{ls L:List Int}{mk:List Bool}{n k:Nat}(hL:L.Pairwise (Ql2 key ls)) (hm:∀i:Nat,i<n→(i:Int)∈L) (hr:∀x∈L,0≤x∧x<n)
  (hmk:∀i:Nat,i<n→(mk.getD i false=true↔(i:Int)∈L.take k)) (hk:k<L.length):Qx4 key ls mk n=L[k]:=by
 have hd:L.Pairwise (· ≠ ·):=hL.imp (fun {a b} h e=>by subst e;exact Qre h h)
 obtain⟨x0,x1⟩:=hr L[k] (List.getElem_mem hk)
 have hx:((L[k].toNat:Nat):Int)=L[k]:=Int.toNat_of_nonneg x0
 have hun:mk.getD L[k].toNat false=false:=by
  cases h:mk.getD L[k].toNat false with
  |false=>rfl
  |true=>
   have:=(hmk _ (by omega)).1 h
   rw[hx,List.mem_take_iff_getElem] at this
   obtain⟨i,hi,e⟩:=this
   exact absurd e ((List.pairwise_iff_getElem.1 hd) i k (by omega) hk (by omega))
 rcases Qzb key ls mk n with ⟨h1,_⟩ |⟨b,hb,h2,h3,h4⟩
 ·rw[h1 _ (by omega)] at hun
  exact absurd hun (by simp)
 ·rw[h2]
  rcases h4 L[k].toNat (by omega) hun with h |h
  ·omega
  ·exfalso
   obtain⟨j,hj,e⟩:=List.getElem_of_mem (hm b hb)
   have hjk:¬j<k:=fun hlt=>by
    have:=(hmk b hb).2 (by rw[List.mem_take_iff_getElem];exact⟨j,by omega,e⟩)
    rw[h3] at this
    exact absurd this (by simp)
   rw[hx] at h
   rcases Nat.lt_or_eq_of_le (Nat.le_of_not_lt hjk) with h5 |h5
   ·have:=(List.pairwise_iff_getElem.1 hL) k j hk hj h5
    rw[e] at this
    exact Qre h this
   ·subst h5
    rw[e] at h
    exact Qre h h
def mark (l:List Bool) (i:Int):List Bool:=l.set i.toNat true
theorem Q51 (l:List Bool) (i:Int):(mark l i).length=l.length:=by simp[mark]
theorem Zbb (p:List Int):∀(l:List Bool) (i:Nat),i<l.length→(∀x∈p,0≤x)→((p.foldl mark l).getD i false=true↔((i:Int)∈p∨l.getD i false=true)):=by
 induction p with
 |nil=>exact fun l i _ _=>by simp
 |cons x r ih=>
  intro l i hi h0
  have hx:=h0 x List.mem_cons_self
  rw[List.foldl_cons,ih (mark l x) i (by rw[Q51];exact hi) (fun y hy=>h0 y (List.mem_cons_of_mem _ hy)),List.mem_cons]
  have e:(mark l x).getD i false=true↔((i:Int)=x∨l.getD i false=true):=by
   simp only[mark,List.getD_eq_getElem?_getD,List.getElem?_set]
   by_cases h:x.toNat=i
   ·have:(i:Int)=x:=by omega
    simp[h,hi,this]
   ·have:¬(i:Int)=x:=by omega
    simp[h,this]
  rw[e]
  constructor
  ·rintro (h |h |h)
   ·exact .inl (.inr h)
   ·exact .inl (.inl h)
   ·exact .inr h
  ·rintro ((h |h) |h)
   ·exact .inr (.inl h)
   ·exact .inl h
   ·exact .inr (.inr h)
theorem Zba {L:List Int}{n k:Nat}(hr:∀x∈L,0≤x∧x<n) (i:Nat) (hi:i<n):(((L.take k).foldl mark (List.replicate n false)).getD i false=true↔(i:Int)∈L.take k):=by
 rw[Zbb _ _ _ (by simpa using hi) (fun x hx=>(hr x (List.mem_of_mem_take hx)).1)]
 simp[hi,List.getD_eq_getElem?_getD]
def bump (l:List Int) (i:Int):List Int:=l.set i.toNat (l.getD i.toNat 0+1)
theorem Qms (l:List Int) (i:Int):(bump l i).length=l.length:=by simp[bump]
theorem Q32 (p:List Int):∀l:List Int,(p.foldl bump l).length=l.length:=by
 induction p with
 |nil=>exact fun _=>rfl
 |cons x r ih=>exact fun l=>(ih (bump l x)).trans (Qms l x)
theorem Q33:∀(is l:List Int),is.Nodup→(∀x∈is,0≤x∧x<l.length)→∀i:Nat,i<l.length→(is.foldl bump l)[i]? = some (l.getD i 0+if (i:Int)∈is then 1 else 0)
 |[],l,_,_,i,hi=>by simp[List.getD_eq_getElem?_getD,hi]
 |x::is,l,hn,hb,i,hi=>by
  obtain⟨hx,hn'⟩:=List.nodup_cons.1 hn
  have hbx:=hb x (by simp)
  have ih:=Q33 is (bump l x) hn' (fun y hy=>by rw[Qms];exact hb y (by simp[hy])) i (by rw[Qms];exact hi)
  rw[List.foldl_cons,ih]
  congr 1
  by_cases e:(i:Int)=x
  ·subst e
   have h1:(bump l (i:Int)).getD i 0=l.getD i 0+1:=by
    unfold bump
    rw[Int.toNat_natCast,List.getD_eq_getElem?_getD,List.getElem?_set_self hi]
    rfl
   rw[h1,if_neg hx,if_pos (by simp)]
   omega
  ·have h1:(bump l x).getD i 0=l.getD i 0:=by
    unfold bump
    rw[List.getD_eq_getElem?_getD,List.getElem?_set_ne (by omega),←List.getD_eq_getElem?_getD]
   rw[h1]
   have:((i:Int)∈x::is)↔((i:Int)∈is):=by simp[e]
   simp only[this]
theorem Zfs:∀(o:List Int) (i:Nat) (x y:Int),o[i]? = some x→(o.set i y).sum=o.sum+(y-x)
 |[],_,_,_,h=>by simp at h
 |a::o,0,x,y,h=>by simp at h;subst h;simp only[List.set_cons_zero,List.sum_cons];omega
 |a::o,i+1,x,y,h=>by
  have:=Zfs o i x y (by simpa using h)
  simp only[List.set_cons_succ,List.sum_cons,this];omega
theorem Q31:∀(is l:List Int),(∀x∈is,0≤x∧x<l.length)→(is.foldl bump l).sum=l.sum+is.length
 |[],l,_=>by simp
 |x::is,l,h=>by
  have hx:=h x (by simp)
  have hg:l[x.toNat]? = some (l.getD x.toNat 0):=by rw[List.getD_eq_getElem?_getD,List.getElem?_eq_getElem (by omega)];rfl
  rw[List.foldl_cons,Q31 is (bump l x) (fun y hy=>by rw[Qms];exact h y (by simp[hy])),bump,Zfs l _ _ _ hg]
  simp only[List.length_cons]
  omega
def Qsp (M:Int) (ws:List Int):List Int:=ws.map fun w=>M*w/ws.sum
def Qsd (M:Int) (ws:List Int):Int:=M-(Qsp M ws).sum
def Za7 (key:Int→Int) (ls:List Int) (n:Nat):Nat→List Bool→List Int
 |0,_=>[]
 |k+1,mk=>Qx4 key ls mk n::Za7 key ls n k (mark mk (Qx4 key ls mk n))
def Qkf (M:Int) (ws:List Int):List Int:=(Za7 (rkey M ws.sum) ws ws.length (Qsd M ws).toNat (List.replicate ws.length false)).foldl bump (Qsp M ws)
theorem Q8r {key:Int→Int}{ls L:List Int}(hp:L.Perm (ixs ls.length)) (hL:L.Pairwise (Ql2 key ls)):∀(k j:Nat),j+k≤L.length→Za7 key ls ls.length k ((L.take j).foldl mark (List.replicate ls.length false))=(L.drop j).take k
 |0,j,_=>by simp[Za7]
 |k+1,j,h=>by
  have hr:∀x∈L,0≤x∧x<ls.length:=fun x hx=>Qwx.1 (hp.mem_iff.1 hx)
  have hb:Qx4 key ls ((L.take j).foldl mark (List.replicate ls.length false)) ls.length=L[j]'(by omega):=Zbo hL (fun i hi=>hp.mem_iff.2 (Qwx.2 ⟨by omega,by omega⟩)) hr (fun i hi=>Zba hr i hi) (by omega)
  have ht:mark ((L.take j).foldl mark (List.replicate ls.length false)) (L[j]'(by omega))=(L.take (j+1)).foldl mark (List.replicate ls.length false):=by
   rw[List.take_add_one,List.getElem?_eq_getElem (by omega),List.foldl_append]
   rfl
  rw[Za7,hb,ht,Q8r hp hL k (j+1) (by omega),List.drop_eq_getElem_cons (show j<L.length by omega),List.take_succ_cons]
structure WtsV (ws:List Int):Prop where
 l1:1≤ws.length
 l2:ws.length≤20
 w:∀x∈ws,0≤x∧x≤1000
 some:∃x∈ws,x>0
theorem Zqq {ws:List Int}(h:wtsB ws=true):WtsV ws:=by
 unfold wtsB at h
 simp only[Bool.and_eq_true] at h
 obtain⟨h1,h2,h3⟩:=h
 have:=Qga.1 h1
 refine⟨by omega,by omega,fun x hx=>Qga.1 (List.all_eq_true.1 h2 x hx),?_⟩
 obtain⟨x,hx,h4⟩:=List.any_eq_true.1 h3
 exact⟨x,hx,by simpa using h4⟩
theorem Zav (ws:List Int) (h:∀x∈ws,0≤x∧x≤1000):0≤ws.sum∧ws.sum≤1000*ws.length:=by
 induction ws with
 |nil=>simp
 |cons a l ih=>
  have h1:=ih fun x hx=>h x (List.mem_cons_of_mem _ hx)
  have h2:=h a List.mem_cons_self
  simp only[List.sum_cons,List.length_cons]
  omega
theorem WtsV.sum {ws:List Int}(h:WtsV ws):0<ws.sum∧ws.sum≤20000:=by
 have h1:=Zav ws h.w
 have h2:=(Q5l fun x hx=>(h.w x hx).1).2.2 h.some
 have:=h.l2
 omega
theorem WtsV.ok {ws:List Int}(h:WtsV ws) {M:Int}(h0:0≤M) (h1:M≤1000000):WOk ws M ws.sum:=⟨h.w,h0,h1,h.sum.1,h.sum.2⟩
theorem Qtm:∀(ws:List Int),(∀x∈ws,0≤x)→∀x∈ws,x≤ws.sum
 |a::l,h,x,hx=>by
  have h1:=(Q5l fun y hy=>h y (List.mem_cons_of_mem a hy)).1
  have h2:=h a List.mem_cons_self
  rw[List.sum_cons]
  rcases List.mem_cons.1 hx with rfl |hx
  ·omega
  ·have:=Qtm l (fun y hy=>h y (List.mem_cons_of_mem a hy)) x hx
   omega
theorem Q9q {M W:Int}(hM:0≤M) (hW:0<W):∀(l:List Int),(∀x∈l,0≤x)→W*(l.map fun w=>M*w/W).sum≤M*l.sum∧M*l.sum≤W*(l.map fun w=>M*w/W).sum+(W-1)*l.length∧0≤(l.map fun w=>M*w/W).sum
 |[],_=>by simp
 |x::l,h=>by
  obtain⟨h1,h2,h3⟩:=Q9q hM hW l fun y hy=>h y (List.mem_cons_of_mem _ hy)
  have b:=h x (by simp)
  have p0:=Int.mul_nonneg hM b
  have q0:=Int.ediv_nonneg p0 (show 0≤W by omega)
  have q1:=Int.emod_add_mul_ediv (M*x) W
  have q2:=Int.emod_nonneg (M*x) (show W≠0 by omega)
  have q3:=Int.emod_lt_of_pos (M*x) hW
  simp only[List.map_cons,List.sum_cons,List.length_cons,Int.mul_add,Int.natCast_add,Int.natCast_one,Int.mul_one]
  omega
theorem Q56 {M:Int}{ws:List Int}(h:WtsV ws) (h0:0≤M):0≤Qsd M ws∧Qsd M ws<ws.length∧0≤(Qsp M ws).sum:=by
 obtain⟨w0,w1⟩:=h.sum
 obtain⟨b1,b2,b3⟩:=Q9q h0 w0 ws fun x hx=>(h.w x hx).1
 have hl:=h.l1
 generalize hS:(ws.map fun w=>M*w/ws.sum).sum=S at b1 b2 b3
 have hB:(Qsp M ws).sum=S:=hS
 unfold Qsd
 rw[hB]
 rw[Int.mul_comm M] at b1 b2
 have c1:S≤M:=Int.le_of_mul_le_mul_left b1 w0
 have c2:M<S+ws.length:=by
  apply Decidable.byContradiction
  intro hc
  have:ws.sum*(S+ws.length)≤ws.sum*M:=Int.mul_le_mul_of_nonneg_left (by omega) (by omega)
  rw[Int.mul_add] at this
  rw[Int.sub_mul] at b2
  omega
 omega
theorem Qq7 {M:Int}{ws L:List Int}(h:WtsV ws) (h0:0≤M) (hp:L.Perm (ixs ws.length)) (hL:L.Pairwise (Ql2 (rkey M ws.sum) ws)) :
  Za7 (rkey M ws.sum) ws ws.length (Qsd M ws).toNat (List.replicate ws.length false)=L.take (Qsd M ws).toNat:=by
 have hb:=Q56 h h0
 have hlen:=hp.length_eq
 rw[Qkj] at hlen
 have:=Q8r hp hL (Qsd M ws).toNat 0 (by omega)
 simpa using this
theorem Q20 {M:Int}{ws:List Int}(h:WtsV ws) (h0:0≤M) (h1:M≤1000000):∃L:List Int,L.Perm (ixs ws.length)∧L.Pairwise (Ql2 (rkey M ws.sum) ws):=by
 obtain⟨Q,_,q2,q3⟩:=Q2z (N:=1000) (h.ok h0 h1) h.l2 h.l1 (Nat.le_refl _)
 exact⟨Q,q2,q3⟩
theorem Qlv (M:Int) (ws:List Int):(Qsp M ws).length=ws.length:=by simp[Qsp]
theorem Qiv (M:Int) (ws:List Int):(Qkf M ws).length=ws.length:=by rw[Qkf,Q32,Qlv]
theorem Qwv {M:Int}{ws:List Int}(h:WtsV ws) (h0:0≤M) (h1:M≤1000000):(Qkf M ws).sum=M:=by
 obtain⟨L,hp,hL⟩:=Q20 h h0 h1
 have hb:=Q56 h h0
 have hlen:=hp.length_eq
 rw[Qkj] at hlen
 rw[Qkf,Qq7 h h0 hp hL,Q31 _ _ (fun x hx=>by rw[Qlv];exact Qwx.1 (hp.mem_iff.1 (List.mem_of_mem_take hx))),List.length_take]
 unfold Qsd at hb ⊢
 omega
theorem Q07 {M:Int}{ws:List Int}(h:WtsV ws) (h0:0≤M):∀x∈Qsp M ws,0≤x∧x≤M:=by
 intro x hx
 obtain⟨w,hw,rfl⟩:=List.mem_map.1 hx
 obtain⟨w0,w1⟩:=h.sum
 have:=h.w w hw
 have hle:=Qtm ws (fun y hy=>(h.w y hy).1) w hw
 refine⟨Int.ediv_nonneg (Int.mul_nonneg h0 this.1) (by omega),Int.ediv_le_of_le_mul w0 ?_⟩
 exact Int.mul_le_mul_of_nonneg_left hle h0
theorem Qy1 {M:Int}{ws:List Int}(h:WtsV ws) (h0:0≤M) (h1:M≤1000000):∀x∈Qkf M ws,0≤x∧x≤M:=by
 have hs:=Qwv h h0 h1
 obtain⟨L,hp,hL⟩:=Q20 h h0 h1
 have hnd:L.Nodup:=hp.nodup_iff.2 (Zg0 _)
 have hn:∀x∈Qkf M ws,0≤x:=fun x hx=>by
  obtain⟨i,hi⟩:=List.mem_iff_getElem?.1 hx
  have hil:i<ws.length:=by have:=(List.getElem?_eq_some_iff.1 hi).1;rwa [Qiv] at this
  rw[Qkf,Qq7 h h0 hp hL,Q33 _ _ (hnd.sublist (List.take_sublist _ _)) (fun x hx=>by rw[Qlv];exact Qwx.1 (hp.mem_iff.1 (List.mem_of_mem_take hx))) i (by rw[Qlv];exact hil)] at hi
  have hbx:=Q07 h h0 ((Qsp M ws)[i]'(by rw[Qlv];exact hil)) (List.getElem_mem _)
  have hg:(Qsp M ws).getD i 0=(Qsp M ws)[i]'(by rw[Qlv];exact hil):=by rw[List.getD_eq_getElem?_getD,List.getElem?_eq_getElem (by rw[Qlv];exact hil)];rfl
  rw[hg] at hi
  have:=Option.some.inj hi
  split at this<;>omega
 intro x hx
 exact⟨hn x hx,by rw[←hs];exact Qtm _ hn x hx⟩
section
variable {N : Nat} {M : Int} {ws : List Int} (h : WtsV ws) (h0 : 0 ≤ M) (h1 : M ≤ 1000000) (hN : 1001 ≤ N)
include h in
theorem Zao (k:Int→Option (List Int)):∀(n i:Nat) (s:Int),(ws.drop i).length<n→0≤s→s≤1000*i→Qeu N ws k n i s=k (s+(ws.drop i).sum):=by
 intro n
 induction n with
 |zero=>intro i _ h;exact absurd h (Nat.not_lt_zero _)
 |succ n ih=>
  intro i s hn s0 s1
  rw[Qeu]
  cases hd:ws.drop i with
  |nil=>
   have:=Qb4 hd
   simp[show ¬((i:Int)<ws.length) from by omega]
  |cons a l=>
   obtain⟨hg,hd',hlt⟩:=Qbs hd
   have ha:=h.w a (List.mem_of_getElem? hg)
   have:=h.l2
   simp only[show decide ((i:Int)<ws.length)=true from by simpa using hlt,cond_true,Qb6 hg,Option.bind_some,List.sum_cons]
   rw[Qbm (x:=(i:Int)+1) (by omega) (by omega),Qbm (x:=s+a) (by omega) (by omega),show(i:Int)+1=((i+1:Nat):Int) by omega,ih (i+1) (s+a) (by rw[hd'];rw[hd] at hn;simp at hn;omega) (by omega) (by omega),hd',Int.add_assoc]
include h h0 h1 in
theorem Zh2 (k:Int×List Int→Option (List Int)):∀(n i:Nat) (r:Int) (o:List Int),(ws.drop i).length<n→i≤ws.length→o.length=ws.length-i→-1000000*(i:Int)≤r→r≤1000000 →
  Qev N M ws ws.sum k n r i (((ws.take i).map fun w=>M*w/ws.sum)++o)=k (r-((ws.drop i).map fun w=>M*w/ws.sum).sum,Qsp M ws):=by
 intro n
 induction n with
 |zero=>intro i _ _ h;exact absurd h (Nat.not_lt_zero _)
 |succ n ih=>
  intro i r o hn hi ho r0 r1
  rw[Qev]
  cases hd:ws.drop i with
  |nil=>
   have:=Qb4 hd
   have e:o=[]:=List.length_eq_zero_iff.1 (by omega)
   simp[show ¬((i:Int)<ws.length) from by omega,e,List.take_of_length_le this,Qsp]
  |cons a l=>
   obtain⟨hg,hd',hlt⟩:=Qbs hd
   have ha:=h.w a (List.mem_of_getElem? hg)
   have hl2:=h.l2
   obtain⟨p0,p1⟩:=h.sum
   obtain⟨x,o',rfl⟩:∃x o',o=x::o':=by
    cases o with
    |nil=>simp at ho;omega
    |cons x o'=>exact⟨x,o',rfl⟩
   have hb:=Q07 h h0 (M*a/ws.sum) (List.mem_map.2 ⟨a,List.mem_of_getElem? hg,rfl⟩)
   have hp:=bdp h0 h1 ha.1 ha.2 (by omega)
   have hlt':((ws.take i).map fun w=>M*w/ws.sum).length=i:=by simp;omega
   have e2:∀y,(((ws.take i).map fun w=>M*w/ws.sum)++y::o')[i]? = some y:=fun y=>by rw[List.getElem?_append_right (by omega),hlt'];simp
   have e3:(((ws.take i).map fun w=>M*w/ws.sum)++x::o').set i (M*a/ws.sum)=((ws.take i).map fun w=>M*w/ws.sum)++(M*a/ws.sum)::o':=by
    rw[List.set_append_right _ _ (by omega),hlt',Nat.sub_self,List.set_cons_zero]
   have e5:((ws.take i).map fun w=>M*w/ws.sum)++(M*a/ws.sum)::o'=((ws.take (i+1)).map fun w=>M*w/ws.sum)++o':=by
    rw[List.take_add_one,hg];simp
   have e4:((i:Int):Int).toNat=i:=by omega
   have c1:(decide ((0:Int)≤(i:Int))&&decide (i<(ws.length:Int).toNat))=true:=by simp;omega
   have ev:w64 ((w64 (M*a)).tdiv ws.sum)=M*a/ws.sum:=by
    rw[Qbm (x:=M*a) (by omega) (by omega),Int.tdiv_eq_ediv_of_nonneg hp.1,Qbm (by omega) (by omega)]
   simp only[show decide ((i:Int)<ws.length)=true from by simpa using hlt,cond_true,Qb6 hg,Option.bind_some,chk,show(ws.sum != 0)=true from by rw[bne_iff_ne];omega,e4,c1,e2,ev,e3]
   rw[Qbm (x:=(i:Int)+1) (by omega) (by omega),Qbm (x:=r-M*a/ws.sum) (by omega) (by omega),show(i:Int)+1=((i+1:Nat):Int) by omega,e5,ih (i+1) _ o' (by rw[hd'];rw[hd] at hn;simp at hn;omega) (by omega) (by simp at ho;omega) (by omega) (by omega),hd',List.map_cons,List.sum_cons]
   congr 2
   omega
theorem Zh1 (k:List Int→Option (List Int)) (x13:List Int) (y6:Int) (is:List Int) (his:x13.take (y6.toNat-0)=is) (hlen:is.length≤20) (hr:∀x∈is,0≤x∧x<ws.length):∀(n i:Nat) (o:List Int),(is.drop i).length<n→o.length=ws.length→(∀x∈o,0≤x∧x≤1000000+i) →
  Qew N ws y6 k x13 n i o=k ((is.drop i).foldl bump o):=by
 intro n
 induction n with
 |zero=>intro i _ h;exact absurd h (Nat.not_lt_zero _)
 |succ n ih=>
  intro i o hn ho hob
  rw[Qew,his]
  cases hd:is.drop i with
  |nil=>
   have:=Qb4 hd
   simp[show ¬((i:Int)<is.length) from by omega]
  |cons b t=>
   obtain⟨hg,hd',hlt⟩:=Qbs hd
   obtain⟨b0,b1⟩:=hr b (List.mem_of_getElem? hg)
   have hx:o[b.toNat]? = some (o.getD b.toNat 0):=by rw[List.getD_eq_getElem?_getD,List.getElem?_eq_getElem (by omega)];rfl
   have hxb:=hob _ (List.mem_of_getElem? hx)
   have c1:(decide ((0:Int)≤b)&&decide (b.toNat<(ws.length:Int).toNat))=true:=by simp;omega
   simp only[show decide ((i:Int)<is.length)=true from by simpa using hlt,cond_true,Qb6 hg,Option.bind_some,chk,c1,hx]
   rw[Qbm (x:=(i:Int)+1) (by omega) (by omega),Qbm (x:=o.getD b.toNat 0+1) (by omega) (by omega),show(i:Int)+1=((i+1:Nat):Int) by omega]
   have:=ih (i+1) (bump o b) (by rw[hd'];rw[hd] at hn;simp at hn;omega) (by rw[Qms];exact ho) (fun z hz=>by
    rcases List.mem_or_eq_of_mem_set hz with hz |rfl
    ·have:=hob z hz;omega
    ·omega)
   rw[hd'] at this
   exact this
include h h0 h1 hN in
theorem Zgr:Qj0 N M ws=some (Qkf M ws):=by
 have hl1:=h.l1
 have hl2:=h.l2
 unfold Qj0
 simp only[Qbn]
 refine(Zao h _ N 0 0 (by simp;omega) (by omega) (by omega)).trans ?_
 rw[List.drop_zero,Int.zero_add]
 simp only[chk]
 rw[show(decide ((0:Int)≤(ws.length:Int))&&decide (8*(ws.length:Int)≤281474976710656)&&decide ((ws.length:Int)≤9223372036854775807))=true from by simp;omega,cond_true]
 have eo:=fun k=>Zh2 (N:=N) h h0 h1 k N 0 M (List.replicate (ws.length:Int).toNat 0) (by simp;omega) (by omega) (by simp) (by omega) h1
 simp only[List.take_zero,List.map_nil,List.nil_append,List.drop_zero] at eo
 refine(eo _).trans ?_
 dsimp only
 obtain⟨Q,q1,q2,q3⟩:=Q2z (N:=N) (h.ok h0 h1) hl2 hl1 (by omega)
 have hlen:=q2.length_eq
 rw[Qkj] at hlen
 have hb:=Q56 h h0
 have hL:M-(ws.map fun w=>M*w/ws.sum).sum=Qsd M ws:=rfl
 rw[q1,Option.bind_some,hL,show(decide ((0:Nat)≤0)&&decide (0≤Qsd M ws)&&decide (Qsd M ws≤(Q.length:Int)))=true from by simp;omega,cond_true]
 have hr:∀x∈Q.take ((Qsd M ws).toNat-0),0≤x∧x<ws.length:=fun x hx=>Qwx.1 (q2.mem_iff.1 (List.mem_of_mem_take hx))
 refine(Zh1 _ Q (Qsd M ws) _ rfl (by rw[List.length_take];omega) hr N 0 (Qsp M ws) (by rw[List.drop_zero,List.length_take];omega) (Qlv _ _) (fun x hx=>by have:=Q07 h h0 x hx;omega)).trans ?_
 have hm:(Q.take ((Qsd M ws).toNat-0)).foldl bump (Qsp M ws)=Qkf M ws:=by
  rw[Qkf,Qq7 h h0 q2 q3,Nat.sub_zero]
 rw[List.drop_zero,hm,Qiv,show decide ((ws.length:Int).toNat≤ws.length)=true from by simp,cond_true,List.take_of_length_le (by rw[Qiv];simp)]
end
end
section
open Go.RowKit
def totS (l:List Qaa):Qaa:=⟨(l.map fun s=>s.Mass).sum,(l.map fun s=>s.Heat).sum,(l.map fun s=>s.Silica).sum,(l.map fun s=>s.Gas).sum⟩
def totW (l:List Qaa):Qaa:=⟨w64 (totS l).Mass,w64 (totS l).Heat,w64 (totS l).Silica,w64 (totS l).Gas⟩
theorem Zfi (N:Nat) (l:List Qaa) (k:Int×Int×Int×Int→Option Qaa) (hl:l.length≤1000000):∀(n i:Nat) (a b c d:Int),(l.drop i).length<n →
  Qfo N l k n i (w64 a) (w64 b) (w64 c) (w64 d)=k (w64 (a+(totS (l.drop i)).Mass),w64 (b+(totS (l.drop i)).Heat),w64 (c+(totS (l.drop i)).Silica),w64 (d+(totS (l.drop i)).Gas)):=by
 intro n
 induction n with
 |zero=>intro i _ _ _ _ h;exact absurd h (Nat.not_lt_zero _)
 |succ n ih=>
  intro i a b c d h
  rw[Qfo]
  cases hd:l.drop i with
  |nil=>
   have:=Qb4 hd
   simp[show ¬((i:Int)<l.length) from by omega,totS]
  |cons x q=>
   obtain⟨hg,hd',hlt⟩:=Qbs hd
   simp only[show decide ((i:Int)<l.length)=true from by simpa using hlt,cond_true,Qb6 hg,Option.bind_some,Qo4]
   rw[Qbm (x:=(i:Int)+1) (by omega) (by omega),show(i:Int)+1=((i+1:Nat):Int) by omega,ih (i+1) _ _ _ _ (by rw[hd'];rw[hd] at h;simp at h;omega),hd']
   simp only[totS,List.map_cons,List.sum_cons,Int.add_assoc]
theorem Qz0:w64 0=0:=by decide
theorem Q5j {N:Nat}{l:List Qaa}(hl:l.length≤1000) (hN:1001≤N):Qgk N l=some (totW l):=by
 unfold Qgk
 simp only[Qbn]
 have:=Zfi N l (fun x=>match x with |(y1,y2,y3,y4)=>some (⟨y1,y2,y3,y4⟩:Qaa)) (by omega) N 0 0 0 0 0 (by simp;omega)
 rw[Qz0,List.drop_zero] at this
 refine this.trans ?_
 simp[totW]
theorem Zfm (N:Nat) (l:List Qaa) (k:Int×Int×Int×Int→Option Qaa) (hl:l.length≤1000000):∀(n i:Nat) (a b c d:Int),(l.drop i).length<n →
  Qf3 N l k n i (w64 a) (w64 b) (w64 c) (w64 d)=k (w64 (a+(totS (l.drop i)).Mass),w64 (b+(totS (l.drop i)).Heat),w64 (c+(totS (l.drop i)).Silica),w64 (d+(totS (l.drop i)).Gas)):=by
 intro n
 induction n with
 |zero=>intro i _ _ _ _ h;exact absurd h (Nat.not_lt_zero _)
 |succ n ih=>
  intro i a b c d h
  rw[Qf3]
  cases hd:l.drop i with
  |nil=>
   have:=Qb4 hd
   simp[show ¬((i:Int)<l.length) from by omega,totS]
  |cons x q=>
   obtain⟨hg,hd',hlt⟩:=Qbs hd
   simp only[show decide ((i:Int)<l.length)=true from by simpa using hlt,cond_true,Qb6 hg,Qk0,Qdd,Option.bind_some,Qo4]
   rw[Qbm (x:=(i:Int)+1) (by omega) (by omega),show(i:Int)+1=((i+1:Nat):Int) by omega,ih (i+1) _ _ _ _ (by rw[hd'];rw[hd] at h;simp at h;omega),hd']
   simp only[totS,List.map_cons,List.sum_cons,Int.add_assoc]
theorem Zq2 {N:Nat}{l:List Qaa}(hl:l.length≤1000) (hN:1001≤N):Ql9 N l=some (totW l):=by
 unfold Ql9
 simp only[Qbn]
 have:=Zfm N l (fun x=>match x with |(y1,y2,y3,y4)=>some (⟨y1,y2,y3,y4⟩:Qaa)) (by omega) N 0 0 0 0 0 (by simp;omega)
 rw[Qz0,List.drop_zero] at this
 refine this.trans ?_
 simp[totW]
theorem Qo6 (s:Qaa) (l:List Qaa):totS (s::l)=⟨s.Mass+(totS l).Mass,s.Heat+(totS l).Heat,s.Silica+(totS l).Silica,s.Gas+(totS l).Gas⟩:=by simp[totS]
theorem Qn6 (s:Qaa):totS [s]=s:=by simp[totS]
theorem Q5i (l m:List Qaa):totS (l++m)=⟨(totS l).Mass+(totS m).Mass,(totS l).Heat+(totS m).Heat,(totS l).Silica+(totS m).Silica,(totS l).Gas+(totS m).Gas⟩:=by simp[totS]
structure TotV (t:Qaa) (n:Nat):Prop where
 m0:0≤t.Mass
 m1:t.Mass≤1000000*n
 h0:0≤t.Heat
 h1:t.Heat≤4000*t.Mass
 s0:0≤t.Silica
 s1:t.Silica≤10000*t.Mass
 g0:0≤t.Gas
 g1:t.Gas≤1000000000*n
theorem Qo5:∀{l:List Qaa},(∀s∈l,StrV s)→TotV (totS l) l.length
 |[],_=>⟨by decide,by decide,by decide,by decide,by decide,by decide,by decide,by decide⟩
 |s::l,h=>by
  obtain⟨a1,a2,a3,a4,a5,a6,a7,a8⟩:=Qo5 fun x hx=>h x (List.mem_cons_of_mem s hx)
  obtain⟨b1,b2,b3,b4,b5,b6,b7,b8⟩:=h s List.mem_cons_self
  rw[Qo6]
  refine⟨?_,?_,?_,?_,?_,?_,?_,?_⟩<;>simp only[List.length_cons]<;>omega
theorem Qvz {l:List Qaa}(h:∀s∈l,StrV s) (hl:l.length≤1000):totW l=totS l:=by
 obtain⟨a1,a2,a3,a4,a5,a6,a7,a8⟩:=Qo5 h
 have:(l.length:Int)≤1000:=by omega
 unfold totW
 rw[Qbm (x:=(totS l).Mass) (by omega) (by omega),Qbm (x:=(totS l).Heat) (by omega) (by omega),Qbm (x:=(totS l).Silica) (by omega) (by omega),Qbm (x:=(totS l).Gas) (by omega) (by omega)]
theorem Zjq {l:List Qaa}(h:∀s∈l,StrV s) (hm:(totS l).Mass≤1000000) (hg:(totS l).Gas≤1000000000):StrV (totS l):=by
 obtain⟨a1,a2,a3,a4,a5,a6,a7,a8⟩:=Qo5 h
 exact⟨a1,hm,a3,a4,a5,a6,a7,hg⟩
def mx (s:Qaa):Int:=if s.Mass>1 then s.Mass else 1
def Q5u (s:Qaa) (m:Int):Qaa:=⟨m,s.Heat*m/mx s,s.Silica*m/mx s,s.Gas*m/mx s⟩
def Qiu (s:Qaa) (ws:List Int):List Qaa:=(Qkf s.Mass ws).map (Q5u s)
def Qnk (s:Qaa) (ws:List Int):Qok:=⟨s.Heat-(totS (Qiu s ws)).Heat,s.Silica-(totS (Qiu s ws)).Silica,s.Gas-(totS (Qiu s ws)).Gas⟩
theorem Q3d (s:Qaa):0<mx s:=by unfold mx;split<;>omega
theorem Zri {s:Qaa}(h:0≤s.Mass):s.Mass≤mx s:=by unfold mx;split<;>omega
theorem Zf8 {n m c:Int}{s:Qaa}(hM:0≤s.Mass) (hm:0≤m) (hn:n≤c*s.Mass) (hc:0≤c):n*m/mx s≤c*m:=by
 have h1:n*m≤c*s.Mass*m:=Int.mul_le_mul_of_nonneg_right hn hm
 have h2:c*s.Mass*m≤c*m*mx s:=by
  rw[Int.mul_assoc,Int.mul_assoc,Int.mul_comm s.Mass m]
  exact Int.mul_le_mul_of_nonneg_left (Int.mul_le_mul_of_nonneg_left (Zri hM) hm) hc
 exact Int.ediv_le_of_le_mul (Q3d s) (Int.le_trans h1 h2)
theorem Q0h {n m:Int}{s:Qaa}(hM:0≤s.Mass) (hm:0≤m) (hmM:m≤s.Mass) (hn:0≤n):0≤n*m/mx s∧n*m/mx s≤n:=by
 have hp:=Q3d s
 refine⟨Int.ediv_nonneg (Int.mul_nonneg hn hm) (by omega),Int.ediv_le_of_le_mul hp ?_⟩
 have:=Zri hM
 exact Int.mul_le_mul_of_nonneg_left (by omega) hn
theorem Zj9 {s:Qaa}(hs:StrV s) {m:Int}(h0:0≤m) (h1:m≤s.Mass):StrV (Q5u s m):=by
 obtain⟨a1,a2,a3,a4,a5,a6,a7,a8⟩:=hs
 have b1:=Q0h a1 h0 h1 a3
 have b2:=Zf8 a1 h0 a4 (by omega)
 have b3:=Q0h a1 h0 h1 a5
 have b4:=Zf8 a1 h0 a6 (by omega)
 have b5:=Q0h a1 h0 h1 a7
 exact⟨h0,by dsimp only[Q5u];omega,b1.1,b2,b3.1,b4,b5.1,by dsimp only[Q5u];omega⟩
theorem Q8s {n:Int}{s:Qaa}(hn:0≤n):∀(l:List Int),(∀m∈l,0≤m)→mx s*(l.map fun m=>n*m/mx s).sum≤n*l.sum
 |[],_=>by simp
 |m::l,h=>by
  have h1:=Q8s (n:=n) (s:=s) hn l fun x hx=>h x (List.mem_cons_of_mem _ hx)
  have hp:=Q3d s
  have h2:=Int.mul_ediv_self_le (x:=n*m) (k:=mx s) (by omega)
  simp only[List.map_cons,List.sum_cons,Int.mul_add]
  omega
theorem Q0g {n:Int}{s:Qaa}(hn:0≤n) (hM:0≤s.Mass) {l:List Int}(h:∀m∈l,0≤m) (hl:l.sum=s.Mass):(l.map fun m=>n*m/mx s).sum≤n:=by
 have h1:=Q8s (s:=s) hn l h
 have hp:=Q3d s
 rw[hl] at h1
 have h2:n*s.Mass≤n*mx s:=Int.mul_le_mul_of_nonneg_left (Zri hM) hn
 rw[Int.mul_comm n (mx s)] at h2
 exact Int.le_of_mul_le_mul_left (Int.le_trans h1 h2) hp
theorem Zat (s:Qaa) (l:List Int):totS (l.map (Q5u s))=⟨l.sum,(l.map fun m=>s.Heat*m/mx s).sum,(l.map fun m=>s.Silica*m/mx s).sum,(l.map fun m=>s.Gas*m/mx s).sum⟩:=by
 simp[totS,Q5u,Function.comp_def]
structure Zwz (s:Qaa) (o:List Qaa) (l:Qok):Prop where
 v:∀x∈o,StrV x
 m:(totS o).Mass=s.Mass
 h:(totS o).Heat+l.Heat=s.Heat
 q:(totS o).Silica+l.Silica=s.Silica
 g:(totS o).Gas+l.Gas=s.Gas
 h0:0≤l.Heat
 q0:0≤l.Silica
 g0:0≤l.Gas
theorem Qny {s:Qaa}(hs:StrV s) {ws:List Int}(h:WtsV ws):Zwz s (Qiu s ws) (Qnk s ws):=by
 have hs':=hs
 obtain⟨a1,a2,a3,a4,a5,a6,a7,a8⟩:=hs'
 have hsum:=Qwv h a1 a2
 have hbd:=Qy1 h a1 a2
 have hnn:∀m∈Qkf s.Mass ws,0≤m:=fun m hm=>(hbd m hm).1
 have e:totS (Qiu s ws)=_:=Zat s (Qkf s.Mass ws)
 have t1:=Q0g (n:=s.Heat) (s:=s) a3 a1 hnn hsum
 have t2:=Q0g (n:=s.Silica) (s:=s) a5 a1 hnn hsum
 have t3:=Q0g (n:=s.Gas) (s:=s) a7 a1 hnn hsum
 refine⟨fun x hx=>?_,?_,?_,?_,?_,?_,?_,?_⟩
 ·obtain⟨m,hm,rfl⟩:=List.mem_map.1 hx
  exact Zj9 hs (hbd m hm).1 (hbd m hm).2
 ·rw[e];exact hsum
 all_goals (simp only[Qnk,e];omega)
section
variable {N : Nat} {s : Qaa} {ws : List Int} (hs : StrV s) (h : WtsV ws) (hN : 1001 ≤ N)
include hs in
theorem Zge {n m:Int}(hn:0≤n) (hn':n≤10000000000) (h0:0≤m) (h1:m≤s.Mass) (a b c:Int):Qf4 N n m s.Mass a b c=some (n*m/mx s):=by
 have hM:=hs.m1
 have hM0:=hs.m0
 have hp:=bdp hn hn' h0 (show m≤1000000 by omega) (by omega)
 have hb:=Q0h hM0 h0 h1 hn
 have hx:=Q3d s
 unfold Qf4
 show chk (mx s != 0) ((some (w64 ((w64 (n*m)).tdiv (mx s)))).bind fun x2=>some x2)=_
 rw[show(mx s != 0)=true by rw[bne_iff_ne];omega,Qbm (x:=n*m) (by omega) (by omega),Int.tdiv_eq_ediv_of_nonneg hp.1,Qbm (by omega) (by omega)]
 rfl
include hs in
theorem Za8 (k:List Qaa→Option (List Qaa×Qok×Int)) (l:List Int) (hl:l.length≤20) (hb:∀m∈l,0≤m∧m≤s.Mass):∀(n i:Nat) (acc:List Qaa),(l.drop i).length<n→acc.length=i →
  Qe4 N s k l n acc i=k (acc++(l.drop i).map (Q5u s)):=by
 intro n
 induction n with
 |zero=>intro i _ h;exact absurd h (Nat.not_lt_zero _)
 |succ n ih=>
  intro i acc h ha
  rw[Qe4]
  cases hd:l.drop i with
  |nil=>
   have:=Qb4 hd
   simp[show ¬((i:Int)<l.length) from by omega]
  |cons m q=>
   obtain⟨hg,hd',hlt⟩:=Qbs hd
   obtain⟨m0,m1⟩:=hb m (List.mem_of_getElem? hg)
   have a1:=hs.m1
   simp only[show decide ((i:Int)<l.length)=true from by simpa using hlt,cond_true,Qb6 hg,Option.bind_some,Zge (N:=N) hs hs.h0 (by have:=hs.h1;omega) m0 m1,Zge (N:=N) hs hs.s0 (by have:=hs.s1;omega) m0 m1,Zge (N:=N) hs hs.g0 (by have:=hs.g1;omega) m0 m1,chk]
   have hc:decide ((acc.length+[(⟨m,s.Heat*m/mx s,s.Silica*m/mx s,s.Gas*m/mx s⟩:Qaa)].length)*32≤140737488355328)=true:=by simp;omega
   rw[hc,cond_true,Qbm (x:=(i:Int)+1) (by omega) (by omega),show(i:Int)+1=((i+1:Nat):Int) by omega,
    ih (i+1) _ (by rw[hd'];rw[hd] at h;simp at h;omega) (by simp[ha]),hd',List.append_assoc]
   rfl
include h hN in
theorem Ze7:Qia N ws=some true∧Qc5 N ws=some true:=by
 have hl:=h.l2
 have hc:Qdq N ws=some (ws.any fun x=>!btw x 0 1000):=by
  unfold Qdq Qe7 Qbn
  refine Qjw (F:=Qci N ws fun _=>some (-1)) (k:=fun _=>some (-1)) (q:=Qgy N) (fun n y=>rfl) (fun x=>?_) rfl (by omega) (by omega)
  simp only[Qgy,Qk2,Qnn,Option.bind_some]
 constructor
 ·unfold Qia
  rw[hc,Option.bind_some,Qxs]
  congr 1
  exact List.all_eq_true.2 fun x hx=>Qga.2 (h.w x hx)
 ·have:Qc5 N ws=some (ws.any fun x=>decide (x>0)):=by
   unfold Qc5 Qe6 Qbn
   exact Qjw (F:=Qch N ws fun _=>some (-1)) (k:=fun _=>some (-1)) (q:=Qk1 N) (fun n y=>rfl) (fun x=>rfl) rfl (by omega) (by omega)
  rw[this]
  congr 1
  obtain⟨x,hx,hp⟩:=h.some
  exact List.any_eq_true.2 ⟨x,hx,by simpa using hp⟩
include hs h hN in
theorem Zj4:Qk9 N s ws=some (Qiu s ws,Qnk s ws,0):=by
 have hl:=h.l2
 obtain⟨w1,w2⟩:=Ze7 h hN
 have hK:=Qny hs h
 have hlen:(Qiu s ws).length=ws.length:=by unfold Qiu;rw[List.length_map,Qiv]
 unfold Qk9
 simp only[Qbn,Qz1,Qpr.2 hs,Option.bind_some,Bool.not_true,cond_false,w1,w2,show decide ((ws.length:Int)>20)=false from by simp;omega,Zgr h hs.m0 hs.m1 hN]
 refine(Za8 hs _ (Qkf s.Mass ws) (by rw[Qiv];exact hl) (Qy1 h hs.m0 hs.m1) N 0 [] (by rw[List.drop_zero,Qiv];omega) rfl).trans ?_
 rw[List.drop_zero,List.nil_append]
 show(Ql9 N (Qiu s ws)).bind _=_
 rw[Zq2 (by omega) hN,Option.bind_some,Qvz hK.v (by omega)]
 obtain⟨_,k1,k2,k3,k4,k5,k6,k7⟩:=hK
 have g1:=hs.h1
 have g2:=hs.s1
 have g3:=hs.g1
 have g4:=hs.m1
 have v:=Qo5 (Qny hs h).v
 have:=v.h0
 have:=v.s0
 have:=v.g0
 unfold Qnk at *
 dsimp only at *
 rw[Qbm (x:=s.Heat-_) (by omega) (by omega),Qbm (x:=s.Silica-_) (by omega) (by omega),Qbm (x:=s.Gas-_) (by omega) (by omega)]
 rfl
end
end
section
open Go.RowKit
def pq (p:Qa6):Int×Int:=(p.Element,p.Outlet)
def Q8p (els:List Qad) (i:Nat) (lv:Int) (u:List (Int×Int)) (p:Qa6):Bool:=
 btw p.Element 0 ((i:Int)-1)&&(match getI els p.Element with |some y=>btw p.Outlet 0 (outl y-1)&&decide (lv≤y.Level) |none=>false)&&!u.contains (pq p)
def Qj8 (els:List Qad) (i:Nat) (lv:Int):List (Int×Int)→List Qa6→Bool
 |_,[]=>true
 |u,p::l=>Q8p els i lv u p&&Qj8 els i lv (u++[pq p]) l
def Qxa (n:Int) (els:List Qad):Nat→List (Int×Int)→List Qad→Bool
 |_,_,[]=>true
 |i,u,x::l=>btw x.Level 0 (n-1)&&Qj8 els i x.Level u x.From&&Qxa n els (i+1) (u++x.From.map pq) l
def netB (n:GNet):Bool:=tabB n.Table&&btw n.Elements.length 1 16&&n.Elements.all Qi6&&Qxa n.Table.length n.Elements 0 [] n.Elements
structure Qjy (n:GNet):Prop where
 t:n.Table.length≤25
 e:n.Elements.length≤18
 x:∀x∈n.Elements,x.From.length≤25∧x.Weights.length≤25
theorem Q0i {x:Qad}(h:x.Weights.length≤25):0≤outl x∧outl x≤25:=by
 unfold outl
 split
 ·omega
 ·split<;>omega
theorem Zg3 {els:List Qad}{a:Int}{i:Nat}(h:btw a 0 ((i:Int)-1)=true) (hi:i≤els.length):∃y,getI els a=some y∧y∈els:=by
 obtain⟨h1,h2⟩:=Qga.1 h
 have hlt:a.toNat<els.length:=by omega
 exact⟨els[a.toNat],by unfold getI;rw[if_pos h1,List.getElem?_eq_getElem hlt],List.getElem_mem hlt⟩
section
variable {N : Nat} {n : GNet} (hs : Qjy n) (hN : 1001 ≤ N)
include hs hN
omit hN in
theorem Za6 {i:Nat}(hi:i<n.Elements.length) {x:Qad}(hx:x.From.length≤25) (k:List (Int×Int)→Option Bool):∀(m j:Nat) (u:List (Int×Int)),(x.From.drop j).length<m →
  Qeb N n i k x m j u=bif Qj8 n.Elements i x.Level u (x.From.drop j) then k (u++(x.From.drop j).map pq) else some false:=by
 intro m
 induction m with
 |zero=>intro j _ h;exact absurd h (Nat.not_lt_zero _)
 |succ m ih=>
  intro j u h
  rw[Qeb]
  cases hd:x.From.drop j with
  |nil=>
   have:=Qb4 hd
   simp[show ¬((j:Int)<x.From.length) from by omega,Qj8]
  |cons p l=>
   obtain⟨hg,hd',hlt⟩:=Qbs hd
   have e0:=hs.e
   simp only[show decide ((j:Int)<x.From.length)=true from by simpa using hlt,cond_true,Qb6 hg,Option.bind_some,Qjo,Qj8,Q8p]
   rw[Qbm (x:=(i:Int)-1) (by omega) (by omega)]
   cases hb:btw p.Element 0 ((i:Int)-1) with
   |false=>rfl
   |true=>
    obtain⟨y,hy,hym⟩:=Zg3 hb (Nat.le_of_lt hi)
    obtain⟨o0,o1⟩:=Q0i (hs.x y hym).2
    simp only[Bool.not_true,cond_false,hy,Option.bind_some,Zga,Bool.true_and]
    rw[Qbm (x:=outl y-1) (by omega) (by omega)]
    cases hc:btw p.Outlet 0 (outl y-1) with
    |false=>rfl
    |true=>
     simp only[Bool.not_true,cond_false,Bool.true_and]
     show(bif u.contains (pq p) then some false else _)=_
     cases hu:u.contains (pq p) with
     |true=>simp
     |false=>
      simp only[cond_false,Bool.not_false,Bool.and_true]
      by_cases hl:x.Level>y.Level
      ·rw[decide_eq_true hl,decide_eq_false (by omega)];rfl
      ·rw[decide_eq_false hl,decide_eq_true (by omega),cond_false,Qbm (x:=(j:Int)+1) (by omega) (by omega),show(j:Int)+1=((j+1:Nat):Int) by omega,
        ih (j+1) _ (by rw[hd'];rw[hd] at h;simp at h;omega),hd']
       have ea:addQ u (p.Element,p.Outlet)=u++[pq p]:=by
        unfold addQ
        rw[show u.contains (p.Element,p.Outlet)=false from hu];rfl
       rw[ea,Bool.true_and,List.map_cons,List.append_assoc]
       rfl
theorem Zhs (k:Unit→Option Bool):∀(m i:Nat) (u:List (Int×Int)),(n.Elements.drop i).length<m →
  Qdu N n k m i u=bif Qxa n.Table.length n.Elements i u (n.Elements.drop i) then k () else some false:=by
 intro m
 induction m with
 |zero=>intro i _ h;exact absurd h (Nat.not_lt_zero _)
 |succ m ih=>
  intro i u h
  rw[Qdu]
  cases hd:n.Elements.drop i with
  |nil=>
   have:=Qb4 hd
   simp[show ¬((i:Int)<n.Elements.length) from by omega,Qxa]
  |cons x l=>
   obtain⟨hg,hd',hlt⟩:=Qbs hd
   have e0:=hs.e
   have e1:=hs.t
   have hx:=hs.x x (List.mem_of_getElem? hg)
   simp only[show decide ((i:Int)<n.Elements.length)=true from by simpa using hlt,cond_true,Qbn,Qb6 hg,Option.bind_some,Qjo,Qxa]
   rw[Qbm (x:=(n.Table.length:Int)-1) (by omega) (by omega)]
   cases hb:btw x.Level 0 ((n.Table.length:Int)-1) with
   |false=>rfl
   |true=>
    have:=Za6 (N:=N) hs hlt hx.1 (fun y9=>Qdu N n k m (w64 ((i:Int)+1)) y9) N 0 u (by simp;omega)
    rw[List.drop_zero] at this
    simp only[Bool.not_true,cond_false,Bool.true_and]
    refine this.trans ?_
    cases Qj8 n.Elements i x.Level u x.From with
    |false=>rfl
    |true=>
     rw[cond_true,Qbm (x:=(i:Int)+1) (by omega) (by omega),show(i:Int)+1=((i+1:Nat):Int) by omega,ih (i+1) _ (by rw[hd'];rw[hd] at h;simp at h;omega),hd',Bool.true_and]
theorem Zs3:Qez N n.Elements=some (n.Elements.all Qi6):=by
 have e0:=hs.e
 have hc:Qb0 N n.Elements=some (n.Elements.any fun x=>!Qi6 x):=by
  unfold Qb0 Qcg Qbn
  have gen:∀(m j:Nat),(n.Elements.drop j).length<m→(Qba N n.Elements (fun _=>some (-1)) m j).bind (fun x=>some (decide (x≥0)))=some ((n.Elements.drop j).any fun x=>!Qi6 x):=by
   intro m
   induction m with
   |zero=>intro j h;exact absurd h (Nat.not_lt_zero _)
   |succ m ih=>
    intro j h
    rw[Qba]
    cases hd:n.Elements.drop j with
    |nil=>
     have:=Qb4 hd
     simp[show ¬((j:Int)<n.Elements.length) from by omega]
    |cons x l=>
     obtain⟨hg,hd',hlt⟩:=Qbs hd
     have hx:=hs.x x (List.mem_of_getElem? hg)
     simp only[show decide ((j:Int)<n.Elements.length)=true from by simpa using hlt,cond_true,Qb6 hg,Option.bind_some,Qfm,Zil (show x.Weights.length≤1000 by omega) hN,List.any_cons]
     cases Qi6 x with
     |false=>simp
     |true=>
      rw[Bool.not_true,cond_false,Qbm (x:=(j:Int)+1) (by omega) (by omega),show(j:Int)+1=((j+1:Nat):Int) by omega,ih (j+1) (by rw[hd'];rw[hd] at h;simp at h;omega),hd',Bool.false_or]
  have:=gen N 0 (by simp;omega)
  rw[List.drop_zero] at this
  exact this
 unfold Qez
 rw[hc,Option.bind_some,Qxs]
theorem Zgk:Qht N n=some (netB n):=by
 have e0:=hs.e
 have e1:=hs.t
 unfold Qht netB Qi1
 simp only[Qbn,Q2h (show n.Table.length≤1000 by omega) hN,Option.bind_some,Qjo,Zs3 hs hN]
 cases tabB n.Table with
 |false=>rfl
 |true=>
  simp only[Bool.not_true,cond_false,Option.bind_some,Bool.true_and,show((0:Int) != 0)=false from rfl]
  cases btw n.Elements.length 1 16 with
  |false=>rfl
  |true=>
   cases n.Elements.all Qi6 with
   |false=>rfl
   |true=>
    have:=Zhs hs hN (fun _=>some true) N 0 [] (by simp;omega)
    rw[List.drop_zero] at this
    simp only[Bool.not_true,cond_false,Bool.true_and]
    refine this.trans ?_
    cases Qxa n.Table.length n.Elements 0 [] n.Elements<;>rfl
omit hs in
theorem Zmq {l:List Qa6}(hl:l.length≤1000) (p:Qa6):Qli N l p=some ((l.map pq).contains (pq p)):=by
 unfold Qli
 simp only[Qbn]
 have gen:∀(m j:Nat),(l.drop j).length<m→Qfc N l (fun _=>some false) p m j=some (((l.drop j).map pq).contains (pq p)):=by
  intro m
  induction m with
  |zero=>intro j h;exact absurd h (Nat.not_lt_zero _)
  |succ m ih=>
   intro j h
   rw[Qfc]
   cases hd:l.drop j with
   |nil=>
    have:=Qb4 hd
    simp[show ¬((j:Int)<l.length) from by omega]
   |cons x q=>
    obtain⟨hg,hd',hlt⟩:=Qbs hd
    have hx:(([x.Element,x.Outlet]:List Int)==[p.Element,p.Outlet])=(pq p==pq x):=by
     by_cases h1:x.Element=p.Element
     ·by_cases h2:x.Outlet=p.Outlet
      ·rw[h1,h2,beq_self_eq_true];simp[pq,h1,h2]
      ·rw[beq_eq_false_iff_ne.2 (by simp[h2]),beq_eq_false_iff_ne.2 (by simp only[pq,ne_eq,Prod.mk.injEq];omega)]
     ·rw[beq_eq_false_iff_ne.2 (by simp[h1]),beq_eq_false_iff_ne.2 (by simp only[pq,ne_eq,Prod.mk.injEq];omega)]
    simp only[show decide ((j:Int)<l.length)=true from by simpa using hlt,cond_true,Qb6 hg,Option.bind_some,hx,List.map_cons,List.contains_cons]
    cases (pq p==pq x) with
    |true=>rfl
    |false=>rw[cond_false,Qbm (x:=(j:Int)+1) (by omega) (by omega),show(j:Int)+1=((j+1:Nat):Int) by omega,ih (j+1) (by rw[hd'];rw[hd] at h;simp at h;omega),hd',Bool.false_or]
 have:=gen N 0 (by simp;omega)
 rw[List.drop_zero] at this
 exact this
theorem Za5 {i:Nat}(hi:i<n.Elements.length) {x:Qad}(hx:x.From.length≤25) (k:List Qa6→Option Bool):∀(m j:Nat) (u:List Qa6),(x.From.drop j).length<m→u.length≤25*i+j →
  Qfd N n i k x m u j=bif Qj8 n.Elements i x.Level (u.map pq) (x.From.drop j) then k (u++x.From.drop j) else some false:=by
 intro m
 induction m with
 |zero=>intro j _ h;exact absurd h (Nat.not_lt_zero _)
 |succ m ih=>
  intro j u h hu
  rw[Qfd]
  cases hd:x.From.drop j with
  |nil=>
   have:=Qb4 hd
   simp[show ¬((j:Int)<x.From.length) from by omega,Qj8]
  |cons p l=>
   obtain⟨hg,hd',hlt⟩:=Qbs hd
   have e0:=hs.e
   simp only[show decide ((j:Int)<x.From.length)=true from by simpa using hlt,cond_true,Qb6 hg,Option.bind_some,Q57,Qj8,Q8p]
   rw[Qbm (x:=(i:Int)-1) (by omega) (by omega)]
   cases hb:btw p.Element 0 ((i:Int)-1) with
   |false=>rfl
   |true=>
    obtain⟨y,hy,hym⟩:=Zg3 hb (Nat.le_of_lt hi)
    obtain⟨o0,o1⟩:=Q0i (hs.x y hym).2
    simp only[Bool.not_true,cond_false,hy,Option.bind_some,Zrd,Bool.true_and]
    rw[Qbm (x:=outl y-1) (by omega) (by omega)]
    cases hc:btw p.Outlet 0 (outl y-1) with
    |false=>rfl
    |true=>
     simp only[Bool.not_true,cond_false,Bool.true_and]
     by_cases hl:x.Level>y.Level
     ·rw[decide_eq_true hl,decide_eq_false (show ¬x.Level≤y.Level by omega)];rfl
     ·rw[decide_eq_false hl,decide_eq_true (show x.Level≤y.Level by omega),cond_false,Zmq hN (by omega),Option.bind_some]
      cases hu':(u.map pq).contains (pq p) with
      |true=>simp
      |false=>
       simp only[cond_false,chk]
       rw[show decide ((u.length+[p].length)*16≤140737488355328)=true by simp;omega,cond_true,Qbm (x:=(j:Int)+1) (by omega) (by omega),show(j:Int)+1=((j+1:Nat):Int) by omega,
        ih (j+1) _ (by rw[hd'];rw[hd] at h;simp at h;omega) (by simp;omega),hd',List.map_append,List.append_assoc]
       rfl
def elsR (t:Int) (els:List Qad):Nat→List (Int×Int)→List Qad→Bool
 |_,_,[]=>true
 |i,u,x::l=>Qi6 x&&btw x.Level 0 (t-1)&&Qj8 els i x.Level u x.From&&elsR t els (i+1) (u++x.From.map pq) l
omit hs hN in
theorem Zhr (t:Int) (els:List Qad):∀(l:List Qad) (i:Nat) (u:List (Int×Int)),elsR t els i u l=(l.all Qi6&&Qxa t els i u l)
 |[],_,_=>rfl
 |x::l,i,u=>by
  rw[elsR,Zhr t els l,Qxa,List.all_cons]
  cases Qi6 x<;>cases btw x.Level 0 (t-1)<;>cases Qj8 els i x.Level u x.From<;>cases l.all Qi6<;>rfl
theorem Zhq (k:Unit→Option Bool):∀(m i:Nat) (u:List Qa6),(n.Elements.drop i).length<m→u.length≤25*i →
  Qeh N n k m u i=bif elsR n.Table.length n.Elements i (u.map pq) (n.Elements.drop i) then k () else some false:=by
 intro m
 induction m with
 |zero=>intro i _ h;exact absurd h (Nat.not_lt_zero _)
 |succ m ih=>
  intro i u h hu
  rw[Qeh]
  cases hd:n.Elements.drop i with
  |nil=>
   have:=Qb4 hd
   simp[show ¬((i:Int)<n.Elements.length) from by omega,elsR]
  |cons x l=>
   obtain⟨hg,hd',hlt⟩:=Qbs hd
   have e0:=hs.e
   have e1:=hs.t
   have hx:=hs.x x (List.mem_of_getElem? hg)
   simp only[show decide ((i:Int)<n.Elements.length)=true from by simpa using hlt,cond_true,Qbn,Qb6 hg,Option.bind_some,Zik (show x.Weights.length≤1000 by omega) hN,Q57,elsR]
   rw[Qbm (x:=(n.Table.length:Int)-1) (by omega) (by omega)]
   cases Qi6 x with
   |false=>rfl
   |true=>
    cases hb:btw x.Level 0 ((n.Table.length:Int)-1) with
    |false=>rfl
    |true=>
     have:=Za5 hs hN hlt hx.1 (fun y9=>Qeh N n k m y9 (w64 ((i:Int)+1))) N 0 u (by simp;omega) (by omega)
     rw[List.drop_zero] at this
     simp only[Bool.not_true,cond_false,Bool.true_and]
     refine this.trans ?_
     cases Qj8 n.Elements i x.Level (u.map pq) x.From with
     |false=>rfl
     |true=>
      rw[cond_true,Qbm (x:=(i:Int)+1) (by omega) (by omega),show(i:Int)+1=((i+1:Nat):Int) by omega,ih (i+1) _ (by rw[hd'];rw[hd] at h;simp at h;omega) (by simp;omega),hd',Bool.true_and,List.map_append]
theorem Zrh:Qlk N n=some (netB n):=by
 have e0:=hs.e
 have e1:=hs.t
 unfold Qlk netB
 simp only[Qbn,Zf0 (show n.Table.length≤9223372036854775807 by omega) (show n.Table.length<N by omega),Option.bind_some]
 cases tabB n.Table with
 |false=>rfl
 |true=>
  simp only[Bool.not_true,cond_false,Bool.true_and]
  by_cases h1:(n.Elements.length:Int)<1
  ·rw[decide_eq_true h1,show btw n.Elements.length 1 16=false by unfold btw;rw[decide_eq_false (by omega)];rfl];rfl
  ·by_cases h2:(n.Elements.length:Int)>16
   ·rw[decide_eq_false h1,decide_eq_true h2,show btw n.Elements.length 1 16=false by unfold btw;rw[decide_eq_false (show ¬(n.Elements.length:Int)≤16 by omega),Bool.and_false]];rfl
   ·rw[decide_eq_false h1,decide_eq_false h2,Qga.2 ⟨by omega,by omega⟩]
    have:=Zhq hs hN (fun _=>some true) N 0 [] (by simp;omega) (by simp)
    rw[List.drop_zero] at this
    simp only[cond_false,Bool.true_and]
    refine this.trans ?_
    rw[Zhr]
    cases n.Elements.all Qi6<;>cases h:Qxa n.Table.length n.Elements 0 [] n.Elements<;>simp[h]
end
theorem Zkr (N:Nat) (n:GNet) (k:Unit→Option Bool) (hl:(n.Elements.length:Int)≤9223372036854775807):∀(m i:Nat),(n.Elements.drop i).length<m →
  Qf9 N n k m i=bif (n.Elements.drop i).all (fun x=>decide (x.From.length≤25)&&decide (x.Weights.length≤25)) then k () else some false:=by
 intro m
 induction m with
 |zero=>intro i h;exact absurd h (Nat.not_lt_zero _)
 |succ m ih=>
  intro i h
  rw[Qf9]
  cases hd:n.Elements.drop i with
  |nil=>
   have:=Qb4 hd
   simp[show ¬((i:Int)<n.Elements.length) from by omega]
  |cons x l=>
   obtain⟨hg,hd',hlt⟩:=Qbs hd
   simp only[show decide ((i:Int)<n.Elements.length)=true from by simpa using hlt,cond_true,Qb6 hg,Option.bind_some,List.all_cons]
   by_cases h1:(x.From.length:Int)>25
   ·rw[decide_eq_true h1,decide_eq_false (show ¬x.From.length≤25 by omega)];rfl
   ·by_cases h2:(x.Weights.length:Int)>25
    ·rw[decide_eq_false h1,decide_eq_true h2,decide_eq_false (show ¬x.Weights.length≤25 by omega)];simp
    ·rw[decide_eq_false h1,decide_eq_false h2,decide_eq_true (show x.From.length≤25 by omega),decide_eq_true (show x.Weights.length≤25 by omega),cond_false,cond_false,Qbm (x:=(i:Int)+1) (by omega) (by omega),show(i:Int)+1=((i+1:Nat):Int) by omega,ih (i+1) (by rw[hd'];rw[hd] at h;simp at h;omega),hd']
     rfl
theorem Zu3 {N:Nat}{n:GNet}{ws:List Qaa}(hl:(n.Elements.length:Int)≤9223372036854775807) (hN:n.Elements.length<N):(Qmb N n ws=some false)∨(Qmb N n ws=some true∧Qjy n∧ws.length≤25):=by
 unfold Qmb
 simp only[Qbn]
 have:=Zkr N n (fun _=>bif (decide ((n.Elements.length:Int)≤18)) then bif (decide ((n.Table.length:Int)≤25)) then some (decide ((ws.length:Int)≤25)) else some false else some false) hl N 0 (by simpa using hN)
 rw[List.drop_zero,show((0:Nat):Int)=0 from rfl] at this
 rw[this]
 cases ha:n.Elements.all (fun x=>decide (x.From.length≤25)&&decide (x.Weights.length≤25)) with
 |false=>exact .inl rfl
 |true=>
  rw[cond_true]
  by_cases h1:(n.Elements.length:Int)≤18
  ·by_cases h2:(n.Table.length:Int)≤25
   ·by_cases h3:(ws.length:Int)≤25
    ·refine .inr ⟨by rw[decide_eq_true h1,decide_eq_true h2,decide_eq_true h3];rfl,⟨by omega,by omega,fun x hx=>?_⟩,by omega⟩
     have:=List.all_eq_true.1 ha x hx
     simpa using this
    ·exact .inl (by rw[decide_eq_true h1,decide_eq_true h2,decide_eq_false h3];rfl)
   ·exact .inl (by rw[decide_eq_true h1,decide_eq_false h2];rfl)
  ·exact .inl (by rw[decide_eq_false h1];rfl)
theorem Zgl (N:Nat) (x:Qad) (k:List Qad×List Qa6×List Int→Option GNet) (hl:x.From.length≤1000) (a:List Qad) (w:List Int):∀(m j:Nat) (acc:List Qa6),(x.From.drop j).length<m→acc.length=j →
  Qf7 N x k m j a acc w=k (a,acc++x.From.drop j,w):=by
 intro m
 induction m with
 |zero=>intro j _ h;exact absurd h (Nat.not_lt_zero _)
 |succ m ih=>
  intro j acc h ha
  rw[Qf7]
  cases hd:x.From.drop j with
  |nil=>
   have:=Qb4 hd
   simp[show ¬((j:Int)<x.From.length) from by omega]
  |cons p l=>
   obtain⟨hg,hd',hlt⟩:=Qbs hd
   simp only[show decide ((j:Int)<x.From.length)=true from by simpa using hlt,cond_true,Qb6 hg,Option.bind_some,chk]
   rw[show decide ((acc.length+[p].length)*16≤140737488355328)=true by simp;omega,cond_true,Qbm (x:=(j:Int)+1) (by omega) (by omega),show(j:Int)+1=((j+1:Nat):Int) by omega,
    ih (j+1) _ (by rw[hd'];rw[hd] at h;simp at h;omega) (by simp[ha]),hd',List.append_assoc]
   rfl
theorem Zkg {N:Nat}{n:GNet}(hs:Qjy n) (hN:1001≤N) (k:List Qad→Option GNet):∀(m i:Nat) (acc:List Qad),(n.Elements.drop i).length<m→acc.length=i →
  Qf8 N n k m i acc=k (acc++n.Elements.drop i):=by
 intro m
 induction m with
 |zero=>intro i _ h;exact absurd h (Nat.not_lt_zero _)
 |succ m ih=>
  intro i acc h ha
  rw[Qf8]
  cases hd:n.Elements.drop i with
  |nil=>
   have:=Qb4 hd
   simp[show ¬((i:Int)<n.Elements.length) from by omega]
  |cons x l=>
   obtain⟨hg,hd',hlt⟩:=Qbs hd
   have e0:=hs.e
   have hx:=hs.x x (List.mem_of_getElem? hg)
   simp only[show decide ((i:Int)<n.Elements.length)=true from by simpa using hlt,cond_true,Qb6 hg,Option.bind_some,chk,Qbn]
   rw[show decide ((([]:List Int).length+x.Weights.length)*8≤140737488355328)=true by simp;omega,cond_true]
   refine(Zgl N x _ (by omega) acc ([]++x.Weights) N 0 [] (by simp;omega) rfl).trans ?_
   dsimp only
   rw[List.drop_zero,List.nil_append,List.nil_append,show decide ((acc.length+[(⟨x.Kind,x.From,x.Level,x.Amount,x.Wide,x.Narrow,x.Weights⟩:Qad)].length)*88≤140737488355328)=true by simp;omega,cond_true,Qbm (x:=(i:Int)+1) (by omega) (by omega),show(i:Int)+1=((i+1:Nat):Int) by omega,
    ih (i+1) _ (by rw[hd'];rw[hd] at h;simp at h;omega) (by simp[ha]),hd',List.append_assoc]
   rfl
theorem Zn8 {N:Nat}{n:GNet}(hs:Qjy n) (hN:1001≤N):Qik N n=some n:=by
 have e0:=hs.e
 have e1:=hs.t
 unfold Qik
 rw[Zjr (by omega) hN,Option.bind_some,Qbn]
 refine(Zkg hs hN _ N 0 [] (by simp;omega) rfl).trans ?_
 rw[List.drop_zero,List.nil_append]
theorem Zgt (N:Nat) {l:List Int}(hl:l.length≤1000):Qiw N l=some l:=by
 unfold Qiw chk
 rw[show decide ((([]:List Int).length+l.length)*8≤140737488355328)=true by simp;omega,cond_true,List.nil_append]
end
section
open Go.RowKit
def Qra {α:Type}(i:Nat):Nat→List α→List ((Int×Int)×α)
 |_,[]=>[]
 |j,a::l=>(((i:Int),(j:Int)),a)::Qra i (j+1) l
def Qit {α:Type}:Nat→List (List α)→List ((Int×Int)×α)
 |_,[]=>[]
 |i,r::o=>Qra i 0 r++Qit (i+1) o
def Qhy {α:Type}(f:α→Int) (U:List (Int×Int)) (l:List ((Int×Int)×α)):Int:=((l.filter fun x=>!U.contains x.1).map fun x=>f x.2).sum
section
variable {α : Type}
theorem Qsc {i:Nat}{a b:Int}{s:α}:∀{l:List α}{j:Nat},((a,b),s)∈Qra i j l↔a=i∧(j:Int)≤b∧l[(b-j).toNat]? = some s
 |[],j=>by simp[Qra]
 |x::l,j=>by
  rw[Qra,List.mem_cons,Qsc (l:=l) (j:=j+1)]
  constructor
  ·rintro (h |⟨h1,h2,h3⟩)
   ·simp only[Prod.mk.injEq] at h
    obtain⟨⟨rfl,rfl⟩,rfl⟩:=h
    exact⟨rfl,Int.le_refl _,by simp⟩
   ·refine⟨h1,by omega,?_⟩
    rw[show(b-(j:Int)).toNat=(b-((j+1:Nat):Int)).toNat+1 by omega]
    simpa using h3
  ·rintro ⟨h1,h2,h3⟩
   by_cases e:b=j
   ·subst e;subst h1
    simp at h3
    exact .inl (by rw[h3])
   ·refine .inr ⟨h1,by omega,?_⟩
    rw[show(b-(j:Int)).toNat=(b-((j+1:Nat):Int)).toNat+1 by omega] at h3
    simpa using h3
theorem Qpi {a b:Int}{s:α}:∀{o:List (List α)}{i:Nat},((a,b),s)∈Qit i o↔(i:Int)≤a∧0≤b∧∃r,o[(a-i).toNat]? = some r∧r[b.toNat]? = some s
 |[],i=>by simp[Qit]
 |r::o,i=>by
  rw[Qit,List.mem_append,Qsc,Qpi (o:=o) (i:=i+1)]
  constructor
  ·rintro (⟨rfl,h2,h3⟩ |⟨h1,h2,q,h3,h4⟩)
   ·exact⟨Int.le_refl _,by omega,r,by simp,by simpa using h3⟩
   ·refine⟨by omega,h2,q,?_,h4⟩
    rw[show(a-(i:Int)).toNat=(a-((i+1:Nat):Int)).toNat+1 by omega]
    simpa using h3
  ·rintro ⟨h1,h2,q,h3,h4⟩
   by_cases e:a=i
   ·subst e
    simp at h3
    subst h3
    exact .inl ⟨rfl,by omega,by simpa using h4⟩
   ·refine .inr ⟨by omega,h2,q,?_,h4⟩
    rw[show(a-(i:Int)).toNat=(a-((i+1:Nat):Int)).toNat+1 by omega] at h3
    simpa using h3
theorem Qw6 {i:Nat}:∀(l:List α) (j:Nat),((Qra i j l).map fun x=>x.1).Nodup
 |[],j=>by simp[Qra]
 |x::l,j=>by
  rw[Qra,List.map_cons,List.nodup_cons]
  refine⟨fun h=>?_,Qw6 l (j+1)⟩
  obtain⟨⟨⟨a,b⟩,s⟩,h1,h2⟩:=List.mem_map.1 h
  have:=(Qsc.1 h1).2.1
  simp only[Prod.mk.injEq] at h2
  omega
theorem Qw7:∀(o:List (List α)) (i:Nat),((Qit i o).map fun x=>x.1).Nodup
 |[],i=>by simp[Qit]
 |r::o,i=>by
  rw[Qit,List.map_append,List.nodup_append]
  refine⟨Qw6 r 0,Qw7 o (i+1),fun x hx y hy=>?_⟩
  obtain⟨⟨⟨a,b⟩,s⟩,h1,rfl⟩:=List.mem_map.1 hx
  obtain⟨⟨⟨a',b'⟩,s'⟩,h2,rfl⟩:=List.mem_map.1 hy
  have h3:=(Qsc.1 h1).1
  have h4:=(Qpi.1 h2).1
  intro e
  simp only[Prod.mk.injEq] at e
  omega
theorem Qt8:∀(o o':List (List α)) (i:Nat),Qit i (o++o')=Qit i o++Qit (i+o.length) o'
 |[],o',i=>by simp[Qit]
 |r::o,o',i=>by
  rw[List.cons_append,Qit,Qt8 o o' (i+1),Qit,List.append_assoc,List.length_cons,show i+1+o.length=i+(o.length+1) by omega]
theorem Q3a (f:α→Int) (U:List (Int×Int)) (l l':List ((Int×Int)×α)):Qhy f U (l++l')=Qhy f U l+Qhy f U l':=by
 simp[Qhy,List.filter_append]
theorem Qws {f:α→Int}{U V:List (Int×Int)}{l:List ((Int×Int)×α)}(h:∀x∈l,(x.1∈U↔x.1∈V)):Qhy f U l=Qhy f V l:=by
 unfold Qhy
 have:(l.filter fun x=>!U.contains x.1)=l.filter fun x=>!V.contains x.1:=List.filter_congr fun x hx=>by
  have:=h x hx
  by_cases h1:x.1∈U
  ·have h2:=this.1 h1
   simp[h1,h2]
  ·have h2:¬x.1∈V:=fun h=>h1 (this.2 h)
   simp[h1,h2]
 rw[this]
theorem Qyz (f:α→Int) {U:List (Int×Int)}{p:Int×Int}{s:α}:∀{l:List ((Int×Int)×α)},(l.map fun x=>x.1).Nodup→(p,s)∈l→p∉U→Qhy f (p::U) l=Qhy f U l-f s
 |[],_,h,_=>by simp at h
 |x::l,hn,h,hp=>by
  rw[List.map_cons,List.nodup_cons] at hn
  have e:∀V,Qhy f V (x::l)=(if x.1∈V then 0 else f x.2)+Qhy f V l:=fun V=>by
   unfold Qhy
   by_cases hv:x.1∈V<;>simp[hv]
  rw[e,e]
  rcases List.mem_cons.1 h with h |h
  ·subst h
   rw[if_pos (by simp),if_neg hp]
   have:Qhy f (p::U) l=Qhy f U l:=Qws fun y hy=>by
    rw[List.mem_cons]
    refine⟨fun h=>h.resolve_left fun e=>hn.1 ?_,.inr⟩
    rw[←e]
    exact List.mem_map.2 ⟨y,hy,rfl⟩
   rw[this]
   dsimp only
   omega
  ·rw[Qyz f hn.2 h hp]
   have hx:x.1≠p:=fun e=>hn.1 (by rw[e];exact List.mem_map.2 ⟨_,h,rfl⟩)
   have:(x.1∈p::U)↔x.1∈U:=by simp[hx]
   by_cases hv:x.1∈U
   ·rw[if_pos (this.2 hv),if_pos hv];omega
   ·rw[if_neg (fun h=>hv (this.1 h)),if_neg hv];omega
theorem Qwr (f:α→Int) {l:List ((Int×Int)×α)}(hl:(l.map fun x=>x.1).Nodup):∀(P:List (Int×Int)) (S:List α) (U:List (Int×Int)),P.length=S.length→(∀(i:Nat) p s,P[i]? = some p→S[i]? = some s→(p,s)∈l)→P.Nodup→(∀p∈P,p∉U) →
  Qhy f (P++U) l=Qhy f U l-(S.map f).sum
 |[],[],U,_,_,_,_=>by simp
 |p::P,s::S,U,hlen,hm,hn,hu=>by
  rw[List.nodup_cons] at hn
  have h1:=Qwr f hl P S U (by simpa using hlen) (fun i q t h1 h2=>hm (i+1) q t (by simpa using h1) (by simpa using h2)) hn.2 fun q hq=>hu q (List.mem_cons_of_mem _ hq)
  rw[List.cons_append,Qyz f hl (hm 0 p s rfl rfl),h1]
  ·simp only[List.map_cons,List.sum_cons];omega
  ·intro h
   rcases List.mem_append.1 h with h |h
   ·exact hn.1 h
   ·exact hu p List.mem_cons_self h
 |[],_::_,_,h,_,_,_=>by simp at h
 |_::_,[],_,h,_,_,_=>by simp at h
theorem Q29 (f:α→Int) {U:List (Int×Int)}{i:Nat}(hU:∀p∈U,p.1≠i):∀(r:List α) (j:Nat),Qhy f U (Qra i j r)=(r.map f).sum
 |[],j=>rfl
 |x::r,j=>by
  have hx:((i:Int),(j:Int))∉U:=fun h=>hU _ h rfl
  have:Qhy f U (Qra i j (x::r))=f x+Qhy f U (Qra i (j+1) r):=by
   unfold Qhy
   rw[Qra,List.filter_cons,if_pos (by simpa using hx),List.map_cons,List.sum_cons]
  rw[this,Q29 f hU r (j+1),List.map_cons,List.sum_cons]
theorem Qt5 {f:α→Int}{U:List (Int×Int)}:∀{l:List ((Int×Int)×α)},(∀x∈l,0≤f x.2)→0≤Qhy f U l
 |[],_=>by simp[Qhy]
 |x::l,h=>by
  have h1:=Qt5 (U:=U) fun y hy=>h y (List.mem_cons_of_mem x hy)
  have h2:=h x List.mem_cons_self
  unfold Qhy at h1 ⊢
  rw[List.filter_cons]
  split
  ·rw[List.map_cons,List.sum_cons];omega
  ·exact h1
theorem Q3q (i:Nat) (r:List α):Qit i [r]=Qra i 0 r:=by simp[Qit]
end
end
section
open Go.RowKit
structure NetV (n:GNet):Prop where
 tab:tabB n.Table=true
 len:1≤n.Elements.length∧n.Elements.length≤16
 alone:∀x∈n.Elements,Qi6 x=true
 level:∀x∈n.Elements,0≤x.Level∧x.Level≤(n.Table.length:Int)-1
 port:∀(i:Nat) x p,n.Elements[i]? = some x→p∈x.From→0≤p.Element∧p.Element<i∧∃y,n.Elements[p.Element.toNat]? = some y∧0≤p.Outlet∧p.Outlet<outl y∧x.Level≤y.Level
 dist:(n.Elements.flatMap fun x=>x.From.map pq).Nodup
theorem Qwi {els:List Qad}{i:Nat}{lv:Int}:∀{l:List Qa6}{u:List (Int×Int)},Qj8 els i lv u l=true→u.Nodup →
  (u++l.map pq).Nodup∧∀p∈l,0≤p.Element∧p.Element<i∧∃y,els[p.Element.toNat]? = some y∧0≤p.Outlet∧p.Outlet<outl y∧lv≤y.Level
 |[],u,_,hu=>⟨by simpa using hu,by simp⟩
 |p::l,u,h,hu=>by
  rw[Qj8,Bool.and_eq_true] at h
  obtain⟨h1,h2⟩:=h
  rw[Q8p,Bool.and_eq_true,Bool.and_eq_true] at h1
  obtain⟨⟨h3,h4⟩,h5⟩:=h1
  have hn:pq p∉u:=by simpa using h5
  have hu':(u++[pq p]).Nodup:=by
   rw[List.nodup_append]
   exact⟨hu,by simp,fun a ha b hb=>by simp at hb;subst hb;exact fun e=>hn (e▸ha)⟩
  obtain⟨k1,k2⟩:=Qwi h2 hu'
  refine⟨by rw[List.map_cons];rw[List.append_assoc] at k1;exact k1,fun q hq=>?_⟩
  rcases List.mem_cons.1 hq with rfl |hq
  ·obtain⟨b1,b2⟩:=Qga.1 h3
   cases hg:getI els q.Element with
   |none=>rw[hg] at h4;cases h4
   |some y=>
    rw[hg] at h4
    simp only[Bool.and_eq_true,decide_eq_true_eq] at h4
    obtain⟨c1,c2⟩:=Qga.1 h4.1
    exact⟨b1,by omega,y,(Qsg hg).2,c1,by omega,h4.2⟩
  ·exact k2 q hq
theorem Q3s {t:Int}{els:List Qad}:∀{l:List Qad}{i:Nat}{u:List (Int×Int)},Qxa t els i u l=true→u.Nodup →
  (u++l.flatMap fun x=>x.From.map pq).Nodup∧(∀x∈l,0≤x.Level∧x.Level≤t-1)∧∀(j:Nat) x p,l[j]? = some x→p∈x.From→0≤p.Element∧p.Element<(i:Int)+j∧∃y,els[p.Element.toNat]? = some y∧0≤p.Outlet∧p.Outlet<outl y∧x.Level≤y.Level
 |[],i,u,_,hu=>⟨by simpa using hu,by simp,fun j x p h=>by simp at h⟩
 |x::l,i,u,h,hu=>by
  rw[Qxa,Bool.and_eq_true,Bool.and_eq_true] at h
  obtain⟨⟨h1,h2⟩,h3⟩:=h
  obtain⟨k1,k2⟩:=Qwi h2 hu
  obtain⟨m1,m2,m3⟩:=Q3s h3 k1
  refine⟨by rw[List.flatMap_cons];rw[List.append_assoc] at m1;exact m1,fun y hy=>?_,fun j y p hj hp=>?_⟩
  ·rcases List.mem_cons.1 hy with rfl |hy
   ·exact Qga.1 h1
   ·exact m2 y hy
  ·cases j with
   |zero=>
    simp at hj
    subst hj
    obtain⟨a,b,c⟩:=k2 p hp
    exact⟨a,by omega,c⟩
   |succ j=>
    obtain⟨a,b,c⟩:=m3 j y p (by simpa using hj) hp
    exact⟨a,by omega,c⟩
theorem Q5z {n:GNet}(h:netB n=true):NetV n:=by
 unfold netB at h
 simp only[Bool.and_eq_true] at h
 obtain⟨⟨⟨h1,h2⟩,h3⟩,h4⟩:=h
 obtain⟨k1,k2,k3⟩:=Q3s h4 List.nodup_nil
 have:=Qga.1 h2
 exact⟨h1,⟨by omega,by omega⟩,fun x hx=>List.all_eq_true.1 h3 x hx,k2,fun i x p hi hp=>by
  obtain⟨a,b,c⟩:=k3 i x p hi hp
  exact⟨a,by omega,c⟩,by simpa using k1⟩
def Qm2:Nat→List Qad→List Qa6
 |_,[]=>[]
 |i,x::l=>(List.range (outl x).toNat).map (fun k:Nat=>(⟨(i:Int),(k:Int)⟩:Qa6))++Qm2 (i+1) l
def Qvx (n:GNet):List (Int×Int):=n.Elements.flatMap fun x=>x.From.map pq
def Qh9 (n:GNet):List Qa6:=(Qm2 0 n.Elements).filter fun p=>!(Qvx n).contains (pq p)
section
variable {N : Nat} {n : GNet} (hs : Qjy n) (hv : NetV n) (hN : 1001 ≤ N)
theorem Zap (x:Qad) (hx:x.From.length≤1000) (k:List (Int×Int)→Option (List (Int×Int))):∀(m j:Nat) (u:List (Int×Int)),(x.From.drop j).length<m→(u++(x.From.drop j).map pq).Nodup →
  Qd5 N k x m j u=k (u++(x.From.drop j).map pq):=by
 intro m
 induction m with
 |zero=>intro j _ h;exact absurd h (Nat.not_lt_zero _)
 |succ m ih=>
  intro j u h hu
  rw[Qd5]
  cases hd:x.From.drop j with
  |nil=>
   have:=Qb4 hd
   simp[show ¬((j:Int)<x.From.length) from by omega]
  |cons p l=>
   obtain⟨hg,hd',hlt⟩:=Qbs hd
   rw[hd] at hu
   have hn:u.contains (p.Element,p.Outlet)=false:=by
    rw[←Bool.not_eq_true,List.contains_iff_mem]
    intro hm
    rw[List.nodup_append] at hu
    exact hu.2.2 _ hm (pq p) (by simp) rfl
   have ea:addQ u (p.Element,p.Outlet)=u++[pq p]:=by
    unfold addQ
    rw[hn];rfl
   simp only[show decide ((j:Int)<x.From.length)=true from by simpa using hlt,cond_true,Qb6 hg,Option.bind_some,ea]
   rw[Qbm (x:=(j:Int)+1) (by omega) (by omega),show(j:Int)+1=((j+1:Nat):Int) by omega,ih (j+1) _ (by rw[hd'];rw[hd] at h;simp at h;omega) (by rw[hd',List.append_assoc];exact hu),hd',List.append_assoc]
   rfl
include hs hN in
theorem Zfc (k:List (Int×Int)→Option (List (Int×Int))):∀(m i:Nat) (u:List (Int×Int)),(n.Elements.drop i).length<m→(u++(n.Elements.drop i).flatMap fun x=>x.From.map pq).Nodup →
  Qd6 N n k m i u=k (u++(n.Elements.drop i).flatMap fun x=>x.From.map pq):=by
 intro m
 induction m with
 |zero=>intro i _ h;exact absurd h (Nat.not_lt_zero _)
 |succ m ih=>
  intro i u h hu
  rw[Qd6]
  cases hd:n.Elements.drop i with
  |nil=>
   have:=Qb4 hd
   simp[show ¬((i:Int)<n.Elements.length) from by omega]
  |cons x l=>
   obtain⟨hg,hd',hlt⟩:=Qbs hd
   have e0:=hs.e
   have hx:=hs.x x (List.mem_of_getElem? hg)
   rw[hd,List.flatMap_cons,←List.append_assoc] at hu
   simp only[show decide ((i:Int)<n.Elements.length)=true from by simpa using hlt,cond_true,Qbn,Qb6 hg,Option.bind_some]
   refine(Zap x (by omega) _ N 0 u (by simp;omega) (by rw[List.drop_zero];exact(List.nodup_append.1 hu).1)).trans ?_
   rw[List.drop_zero,Qbm (x:=(i:Int)+1) (by omega) (by omega),show(i:Int)+1=((i+1:Nat):Int) by omega,ih (i+1) _ (by rw[hd'];rw[hd] at h;simp at h;omega) (by rw[hd'];exact hu),hd',List.flatMap_cons,List.append_assoc]
include hs hv hN in
theorem Zfd:Qgv N n=some (Qvx n):=by
 have e0:=hs.e
 unfold Qgv
 simp only[Qbn]
 refine(Zfc hs hN _ N 0 [] (by simp;omega) (by rw[List.drop_zero];exact hv.dist)).trans ?_
 rw[List.drop_zero,List.nil_append]
 rfl
theorem Zbg (i:Nat) (u:List (Int×Int)) (o:Nat) (ho:o≤1000) (r:List Qa6) (k:Unit→Option (List Qa6)) (hk:k ()=some r):∀(m j:Nat),o-j<m→j≤o →
  Qdl N i u k o m j=some ((((List.range' j (o-j)).map (fun k:Nat=>(⟨(i:Int),(k:Int)⟩:Qa6))).filter fun p=>!u.contains (pq p))++r):=by
 intro m
 induction m with
 |zero=>intro j h;exact absurd h (Nat.not_lt_zero _)
 |succ m ih=>
  intro j h hj
  rw[Qdl]
  by_cases hlt:j<o
  ·rw[show decide ((j:Int)<(o:Int))=true by simpa using hlt,cond_true,Qbm (x:=(j:Int)+1) (by omega) (by omega),show(j:Int)+1=((j+1:Nat):Int) by omega,ih (j+1) (by omega) (by omega),show o-j=(o-(j+1))+1 by omega,List.range'_succ,List.map_cons,List.filter_cons]
   cases hu:u.contains (pq ⟨(i:Int),(j:Int)⟩) with
   |true=>
    rw[show u.contains ((i:Int),(j:Int))=true from hu]
    simp
   |false=>
    rw[show u.contains ((i:Int),(j:Int))=false from hu]
    simp[yld]
  ·rw[show decide ((j:Int)<(o:Int))=false by simpa using hlt,cond_false,hk,show o-j=0 by omega]
   rfl
include hs hN in
theorem Q3r (u:List (Int×Int)):∀(m i:Nat),(n.Elements.drop i).length<m →
  Qc3 N n.Elements u m i=some ((Qm2 i (n.Elements.drop i)).filter fun p=>!u.contains (pq p)):=by
 intro m
 induction m with
 |zero=>intro i h;exact absurd h (Nat.not_lt_zero _)
 |succ m ih=>
  intro i h
  rw[Qc3]
  cases hd:n.Elements.drop i with
  |nil=>
   have:=Qb4 hd
   simp[show ¬((i:Int)<n.Elements.length) from by omega,Qm2]
  |cons x l=>
   obtain⟨hg,hd',hlt⟩:=Qbs hd
   have e0:=hs.e
   obtain⟨o0,o1⟩:=Q0i (hs.x x (List.mem_of_getElem? hg)).2
   simp only[show decide ((i:Int)<n.Elements.length)=true from by simpa using hlt,cond_true,Qbn,Qb6 hg,Option.bind_some,Zga]
   have h1:=ih (i+1) (by rw[hd'];rw[hd] at h;simp at h;omega)
   rw[Qbm (x:=(i:Int)+1) (by omega) (by omega),show(i:Int)+1=((i+1:Nat):Int) by omega]
   have h2:=Zbg (N:=N) i u (outl x).toNat (by omega) _ (fun _=>Qc3 N n.Elements u m ((i+1:Nat):Int)) h1 N 0 (by omega) (Nat.zero_le _)
   rw[show(((outl x).toNat:Nat):Int)=outl x by omega] at h2
   refine h2.trans ?_
   rw[hd',Qm2,List.filter_append,Nat.sub_zero,List.range_eq_range']
theorem Qqo (k:List Qa6→Option (List Qa6)):∀(q y:List Qa6),y.length+q.length≤1000→Qa9 N k q y=k (y++q)
 |[],y,_=>by simp[Qa9]
 |x::q,y,h=>by
  have hc:decide ((y.length+[x].length)*16≤140737488355328)=true:=by simp at h ⊢;omega
  rw[Qa9]
  simp only[chk]
  rw[hc,cond_true,Qqo k q _ (by simp at h ⊢;omega)]
  simp
theorem Qtd:∀(l:List Qad) (i:Nat),(∀x∈l,x.Weights.length≤25)→(Qm2 i l).length≤25*l.length
 |[],_,_=>by simp[Qm2]
 |x::l,i,h=>by
  have:=Qtd l (i+1) fun y hy=>h y (List.mem_cons_of_mem _ hy)
  have:=Q0i (h x List.mem_cons_self)
  simp only[Qm2,List.length_append,List.length_map,List.length_range,List.length_cons]
  omega
include hs hv hN in
theorem Zso:Qkv N n=some (bif netB n then(Qh9 n,0) else([],1))∨netB n=false:=by
 have e0:=hs.e
 cases hb:netB n with
 |false=>exact .inr rfl
 |true=>
  refine .inl ?_
  unfold Qkv Qfb Qdf Qf6
  have h1:=Q3r hs hN (Qvx n) N 0 (by simp;omega)
  rw[List.drop_zero] at h1
  rw[Zgk hs hN,hb]
  simp only[Option.bind_some,Bool.not_true,cond_false,Zfd hs hv hN,Qbn,show Qc3 N n.Elements (Qvx n) N 0=_ from h1]
  have hlen:(Qh9 n).length≤450:=by
   have h2:=Qtd n.Elements 0 fun x hx=>(hs.x x hx).2
   have h3:=List.length_filter_le (fun p=>!(Qvx n).contains (pq p)) (Qm2 0 n.Elements)
   unfold Qh9
   omega
  rw[show((Qm2 0 n.Elements).filter fun p=>!(Qvx n).contains (pq p))=Qh9 n from rfl,Qqo _ _ _ (by simp;omega)]
  rfl
end
theorem Zhp {N:Nat}{n:GNet}(hs:Qjy n) (hN:1001≤N) (h:netB n=true):Qkv N n=some (Qh9 n,0):=by
 rcases Zso hs (Q5z h) hN with e |e
 ·rw[e,h];rfl
 ·rw[h] at e;cases e
def stB (n:GNet) (s:List Int):Bool:=decide (s.length=n.Elements.length)&&s.all fun x=>btw x 0 1000000000000
theorem Q2n {N:Nat}{n:GNet}(hs:Qjy n) (hN:1001≤N) {s:List Int}(hl:s.length≤1000):Qjs N n s=some (bif netB n&&stB n s then 0 else 1):=by
 have hc:Qdr N s=some (s.any fun x=>!btw x 0 1000000000000):=by
  unfold Qdr Qe8 Qbn
  refine Qjw (F:=Qcj N s fun _=>some (-1)) (k:=fun _=>some (-1)) (q:=Qhq N) (fun n y=>rfl) (fun x=>?_) rfl (by omega) (by omega)
  simp only[Qhq,Qk3,Qjo,Option.bind_some]
 unfold Qjs Qka stB
 rw[Zgk hs hN,hc]
 simp only[Option.bind_some,Qxs]
 cases netB n with
 |false=>rfl
 |true=>
  by_cases h1:s.length=n.Elements.length
  ·rw[decide_eq_true h1,show((s.length:Int) != (n.Elements.length:Int))=false by rw[bne_eq_false_iff_eq];omega]
   cases s.all fun x=>btw x 0 1000000000000<;>rfl
  ·rw[decide_eq_false h1,show((s.length:Int) != (n.Elements.length:Int))=true by rw[bne_iff_ne];omega];rfl
def widI (x:Qad) (d:Int):Int:=if x.Wide-d/x.Narrow>0 then x.Wide-d/x.Narrow else 0
theorem Zuf {x:Qad}(hx:Qi6 x=true) {d:Int}(h0:0≤d) (h1:d≤9000000000000000000):(x.Narrow != 0)=true∧d.tdiv x.Narrow=d/x.Narrow∧0≤d/x.Narrow∧d/x.Narrow≤d∧w64 (d/x.Narrow)=d/x.Narrow∧w64 (x.Wide-d/x.Narrow)=x.Wide-d/x.Narrow∧0≤x.Wide∧x.Wide≤1000000∧1≤x.Narrow:=by
 unfold Qi6 at hx
 simp only[Bool.and_eq_true] at hx
 obtain⟨⟨⟨⟨⟨_,hw⟩,hn⟩,_⟩,_⟩,_⟩:=hx
 obtain⟨w0,w1⟩:=Qga.1 hw
 obtain⟨n0,n1⟩:=Qga.1 hn
 have a:=Int.ediv_nonneg h0 (show 0≤x.Narrow by omega)
 have b:=Int.ediv_le_self x.Narrow h0
 exact⟨by rw[bne_iff_ne];omega,Int.tdiv_eq_ediv_of_nonneg h0,a,b,Qbm (by omega) (by omega),Qbm (by omega) (by omega),w0,w1,n0⟩
theorem Ze8 (N:Nat) {x:Qad}(hx:Qi6 x=true) {d:Int}(h0:0≤d) (h1:d≤9000000000000000000):Qgl N x d=some (widI x d):=by
 obtain⟨a,b,c,e,f,g,_⟩:=Zuf hx h0 h1
 unfold Qgl widI
 rw[a,b,f,g]
 rfl
end
section
open Go.RowKit
def zs:Qaa:=⟨0,0,0,0⟩
def Qis (t:List GRow) (l:Int):GRow:=(getI t l).getD ⟨0,0,0,0,0⟩
def Qun (x:Qad) (s:Qaa):Int:=if s.Heat<x.Amount then s.Heat else x.Amount
def actE (t:List GRow) (x:Qad) (s:Qaa):List Qaa×Qa1×Int:=
 if x.Kind=3 then([⟨s.Mass,s.Heat-Qun x s,s.Silica,s.Gas⟩],⟨Qun x s,0,0,0⟩,0)
 else if x.Kind=4 then
  if x.Amount=0 then([(flG (Qis t x.Level) s).Steam,(flG (Qis t x.Level) s).Water],⟨0,0,0,(flG (Qis t x.Level) s).Scale⟩,(flG (Qis t x.Level) s).Steam.Mass)
  else([totS [(flG (Qis t x.Level) s).Steam,(Qiu (flG (Qis t x.Level) s).Water [1000-x.Amount,x.Amount]).getD 1 zs],(Qiu (flG (Qis t x.Level) s).Water [1000-x.Amount,x.Amount]).getD 0 zs],
   ⟨(Qnk (flG (Qis t x.Level) s).Water [1000-x.Amount,x.Amount]).Heat,(Qnk (flG (Qis t x.Level) s).Water [1000-x.Amount,x.Amount]).Silica,(Qnk (flG (Qis t x.Level) s).Water [1000-x.Amount,x.Amount]).Gas,(flG (Qis t x.Level) s).Scale⟩,(flG (Qis t x.Level) s).Steam.Mass)
 else if x.Kind=5 then(Qiu s x.Weights,⟨(Qnk s x.Weights).Heat,(Qnk s x.Weights).Silica,(Qnk s x.Weights).Gas,0⟩,0)
 else([s],⟨0,0,0,0⟩,0)
structure Zs5 (x:Qad) (s:Qaa) (a:List Qaa×Qa1×Int):Prop where
 v:∀y∈a.1,StrV y
 len:(a.1.length:Int)=outl x
 m:(totS a.1).Mass=s.Mass
 h:(totS a.1).Heat+a.2.1.Heat=s.Heat
 q:(totS a.1).Silica+a.2.1.Silica+a.2.1.Scale=s.Silica
 g:(totS a.1).Gas+a.2.1.Gas=s.Gas
 h0:0≤a.2.1.Heat
 q0:0≤a.2.1.Silica
 g0:0≤a.2.1.Gas
 c0:0≤a.2.1.Scale
 t0:0≤a.2.2
 t1:a.2.2≤1000000
structure Zoi (x:Qad):Prop where
 k:1≤x.Kind∧x.Kind≤6
 well:x.Kind=1→x.From=[]
 a3:x.Kind=3→0≤x.Amount
 a4:x.Kind=4→0≤x.Amount∧x.Amount≤1000
 w5:x.Kind=5→WtsV x.Weights
theorem Qst {x:Qad}(h:Qi6 x=true):Zoi x:=by
 unfold Qi6 at h
 simp only[Bool.and_eq_true] at h
 obtain⟨⟨⟨⟨⟨h1,_⟩,_⟩,h4⟩,h5⟩,h6⟩:=h
 refine⟨Qga.1 h1,fun e=>?_,fun e=>?_,fun e=>?_,fun e=>?_⟩
 ·rw[e] at h4
  obtain⟨_,h7⟩:=Qga.1 h4
  rw[if_pos rfl] at h7
  exact List.length_eq_zero_iff.1 (by omega)
 ·rw[e] at h5
  have:=Qga.1 h5
  exact this.1
 ·rw[e] at h5
  have:=Qga.1 h5
  simpa using this
 ·rw[e] at h6
  exact Zqq (by simpa using h6)
theorem Zff {a:Int}(h0:0<a) (h1:a≤1000):WtsV [1000-a,a]:=
 ⟨by simp,by simp,fun x hx=>by simp at hx;rcases hx with rfl |rfl<;>omega,⟨a,by simp,h0⟩⟩
theorem Q2j {s:Qaa}{a b:Int}:∃p q,Qiu s [a,b]=[p,q]:=by
 have:(Qiu s [a,b]).length=2:=by unfold Qiu;rw[List.length_map,Qiv];rfl
 match h:Qiu s [a,b],this with
 |[p,q],_=>exact⟨p,q,rfl⟩
theorem Q9y {t:List GRow}(ht:tabB t=true) {x:Qad}(hx:Zoi x) (hl:0≤x.Level∧x.Level≤(t.length:Int)-1) {s:Qaa}(hs:StrV s):Zs5 x s (actE t x s):=by
 have hs':=hs
 obtain⟨a1,a2,a3,a4,a5,a6,a7,a8⟩:=hs'
 unfold actE
 by_cases h3:x.Kind=3
 ·rw[if_pos h3]
  have hc:0≤Qun x s∧Qun x s≤s.Heat:=by
   have:=hx.a3 h3
   unfold Qun;split<;>omega
  refine⟨fun y hy=>?_,?_,?_,?_,?_,?_,?_,?_,?_,?_,?_,?_⟩
  ·simp at hy;subst hy
   exact⟨a1,a2,by dsimp only;omega,by dsimp only;omega,a5,a6,a7,a8⟩
  ·simp[outl,h3]
  all_goals (try rw[Qn6])
  all_goals (dsimp only;omega)
 ·rw[if_neg h3]
  by_cases h4:x.Kind=4
  ·rw[if_pos h4]
   have hrow:=(Zfu ht (Qga.2 hl)).2
   have hk:=Q89 (r:=Qis t x.Level) hrow hs
   generalize flG (Qis t x.Level) s=p at hk
   obtain⟨k1,k2,k3,k4,k5,k6,k7,k8⟩:=hk
   have k1':=k1
   obtain⟨b1,b2,b3,b4,b5,b6,b7,b8⟩:=k1'
   have k2':=k2
   obtain⟨c1,c2,c3,c4,c5,c6,c7,c8⟩:=k2'
   by_cases h0:x.Amount=0
   ·rw[if_pos h0]
    refine⟨fun y hy=>?_,?_,?_,?_,?_,?_,?_,?_,?_,?_,?_,?_⟩
    ·simp at hy;rcases hy with rfl |rfl<;>assumption
    ·simp[outl,h4]
    all_goals (try rw[Qo6,Qn6])
    all_goals (dsimp only;omega)
   ·rw[if_neg h0]
    have ha:=hx.a4 h4
    have hw:=Zff (a:=x.Amount) (by omega) ha.2
    obtain⟨u,v,hp⟩:=Q2j (s:=p.Water) (a:=1000-x.Amount) (b:=x.Amount)
    have hK:=Qny k2 hw
    rw[hp] at hK ⊢
    simp only[show([u,v]:List Qaa).getD 1 zs=v from rfl,show([u,v]:List Qaa).getD 0 zs=u from rfl]
    generalize Qnk p.Water [1000-x.Amount,x.Amount]=L at hK ⊢
    obtain⟨d0,d1,d2,d3,d4,d5,d6,d7⟩:=hK
    have hu:=d0 u (by simp)
    have hv:=d0 v (by simp)
    rw[Qo6,Qn6] at d1 d2 d3 d4
    dsimp only at d1 d2 d3 d4
    obtain⟨e1,e2,e3,e4,e5,e6,e7,e8⟩:=hu
    obtain⟨f1,f2,f3,f4,f5,f6,f7,f8⟩:=hv
    have et:totS [p.Steam,v]=⟨p.Steam.Mass+v.Mass,p.Steam.Heat+v.Heat,p.Steam.Silica+v.Silica,p.Steam.Gas+v.Gas⟩:=by rw[Qo6,Qn6]
    rw[et]
    refine⟨fun y hy=>?_,?_,?_,?_,?_,?_,?_,?_,?_,?_,?_,?_⟩
    ·simp at hy
     rcases hy with rfl |rfl
     ·refine⟨?_,?_,?_,?_,?_,?_,?_,?_⟩<;>dsimp only<;>omega
     ·exact⟨e1,e2,e3,e4,e5,e6,e7,e8⟩
    ·simp[outl,h4]
    all_goals (try rw[Qo6,Qn6])
    all_goals (dsimp only;omega)
  ·rw[if_neg h4]
   by_cases h5:x.Kind=5
   ·rw[if_pos h5]
    have hw:=hx.w5 h5
    have hK:=Qny hs hw
    have hlen:(Qiu s x.Weights).length=x.Weights.length:=by unfold Qiu;rw[List.length_map,Qiv]
    generalize Qiu s x.Weights=o at hK hlen ⊢
    generalize Qnk s x.Weights=L at hK ⊢
    obtain⟨d0,d1,d2,d3,d4,d5,d6,d7⟩:=hK
    refine⟨d0,by simp[outl,h5,hlen],d1,d2,?_,d4,d5,d6,d7,?_,?_,?_⟩<;>dsimp only<;>omega
   ·rw[if_neg h5]
    refine⟨fun y hy=>?_,?_,?_,?_,?_,?_,?_,?_,?_,?_,?_,?_⟩
    ·simp at hy;subst hy;exact hs
    ·simp[outl,h4,h5]
    all_goals (try rw[Qn6])
    all_goals (dsimp only;omega)
def Qe3 (o:List (List Qaa)) (p:Qa6):Qaa:=((o.getD p.Element.toNat []).getD p.Outlet.toNat zs)
def insE (o:List (List Qaa)) (ws:List Qaa) (x:Qad):List Qaa:=if x.Kind=1 then ws.take 1 else x.From.map (Qe3 o)
def Q2l (t:List GRow):List (Qad×Int)→List Qaa→List (List Qaa)→List Qa1→List Int→Int→Nat⊕(List (List Qaa)×List Qa1×List Int×Int)
 |[],_,o,ls,ss,y=>.inr (o,ls,ss,y)
 |(x,d)::l,ws,o,ls,ss,y=>
  if (totS (insE o ws x)).Mass>widI x d then .inl o.length
  else Q2l t l (if x.Kind=1 then ws.drop 1 else ws) (o++[(actE t x (totS (insE o ws x))).1]) (ls++[(actE t x (totS (insE o ws x))).2.1]) (ss++[d+(actE t x (totS (insE o ws x))).2.1.Scale]) (y+(actE t x (totS (insE o ws x))).2.2)
def Qjh (n:GNet) (i:Nat):List (Int×Int):=(n.Elements.take i).flatMap fun x=>x.From.map pq
def wcn (n:GNet) (i:Nat):Nat:=((n.Elements.take i).filter fun x=>decide (x.Kind=1)).length
structure FedV (n:GNet) (ws:List Qaa):Prop where
 len:ws.length=wcn n n.Elements.length
 v:∀s∈ws,StrV s
 m:(totS ws).Mass≤1000000
 g:(totS ws).Gas≤1000000000
structure InvT (n:GNet) (ws:List Qaa) (i:Nat) (o:List (List Qaa)) (ls:List Qa1):Prop where
 lo:o.length=i
 ll:ls.length=i
 rows:∀(k:Nat) y r,n.Elements[k]? = some y→o[k]? = some r→(r.length:Int)=outl y
 v:∀r∈o,∀s∈r,StrV s
 m:Qhy (fun s=>s.Mass) (Qjh n i) (Qit 0 o)=(totS (ws.take (wcn n i))).Mass
 h:Qhy (fun s=>s.Heat) (Qjh n i) (Qit 0 o)+(ls.map fun l=>l.Heat).sum=(totS (ws.take (wcn n i))).Heat
 q:Qhy (fun s=>s.Silica) (Qjh n i) (Qit 0 o)+(ls.map fun l=>l.Silica).sum+(ls.map fun l=>l.Scale).sum=(totS (ws.take (wcn n i))).Silica
 g:Qhy (fun s=>s.Gas) (Qjh n i) (Qit 0 o)+(ls.map fun l=>l.Gas).sum=(totS (ws.take (wcn n i))).Gas
 l0:∀l∈ls,0≤l.Heat∧0≤l.Silica∧0≤l.Gas∧0≤l.Scale
theorem Q3l (n:GNet) (ws:List Qaa):InvT n ws 0 [] []:=
 ⟨rfl,rfl,fun k y r _ h=>by simp at h,fun r h=>by simp at h,by simp[Qhy,Qit,wcn,totS],by simp[Qhy,Qit,wcn,totS],by simp[Qhy,Qit,wcn,totS],by simp[Qhy,Qit,wcn,totS],fun l h=>by simp at h⟩
theorem Qm1 {α:Type}{l:List α}{i:Nat}{x:α}(h:l[i]? = some x):l.take (i+1)=l.take i++[x]:=by rw[List.take_add_one,h];rfl
theorem Q5f {n:GNet}{i:Nat}{x:Qad}(h:n.Elements[i]? = some x):Qjh n (i+1)=Qjh n i++x.From.map pq:=by
 unfold Qjh
 rw[Qm1 h,List.flatMap_append]
 simp
theorem Qpp {n:GNet}{i:Nat}{x:Qad}(h:n.Elements[i]? = some x):wcn n (i+1)=wcn n i+if x.Kind=1 then 1 else 0:=by
 unfold wcn
 rw[Qm1 h,List.filter_append,List.length_append]
 by_cases hk:x.Kind=1<;>simp[hk]
theorem Zfa {n:GNet}{i:Nat}:wcn n i≤wcn n n.Elements.length:=by
 unfold wcn
 rw[List.take_length]
 exact((List.take_sublist i n.Elements).filter _).length_le
theorem Zaq (n:GNet):Qjh n n.Elements.length=Qvx n:=by unfold Qjh Qvx;rw[List.take_length]
section
variable {n : GNet} (hv : NetV n) {ws : List Qaa} (hf : FedV n ws) {i : Nat} {o : List (List Qaa)} {ls : List Qa1} (hI : InvT n ws i o ls) {x : Qad} (hx : n.Elements[i]? = some x)
include hv hI hx in
theorem Qte {p:Qa6}(hp:p∈x.From):(pq p,Qe3 o p)∈Qit 0 o∧StrV (Qe3 o p)∧(∃r,o[p.Element.toNat]? = some r∧r[p.Outlet.toNat]? = some (Qe3 o p)):=by
 obtain⟨h1,h2,y,h3,h4,h5,_⟩:=hv.port i x p hx hp
 have hlt:p.Element.toNat<o.length:=by rw[hI.lo];omega
 have hr:o[p.Element.toNat]? = some (o[p.Element.toNat]):=List.getElem?_eq_getElem hlt
 have hl:=hI.rows _ y _ h3 hr
 have hlt2:p.Outlet.toNat<(o[p.Element.toNat]).length:=by omega
 have hs:(o[p.Element.toNat])[p.Outlet.toNat]? = some ((o[p.Element.toNat])[p.Outlet.toNat]):=List.getElem?_eq_getElem hlt2
 have e:Qe3 o p=(o[p.Element.toNat])[p.Outlet.toNat]:=by
  unfold Qe3
  rw[List.getD_eq_getElem?_getD,List.getD_eq_getElem?_getD,hr,Option.getD_some,hs,Option.getD_some]
 rw[e]
 refine⟨Qpi.2 ⟨by simpa using h1,h4,_,?_,hs⟩,hI.v _ (List.getElem_mem hlt) _ (List.getElem_mem hlt2),_,hr,hs⟩
 rw[show(p.Element-((0:Nat):Int)).toNat=p.Element.toNat by simp]
 exact hr
include hv hx in
theorem Zbe:(x.From.map pq).Nodup∧∀p∈x.From.map pq,p∉Qjh n i:=by
 have hd:=hv.dist
 have hi:=(List.getElem?_eq_some_iff.1 hx).1
 have e:n.Elements=n.Elements.take i++x::n.Elements.drop (i+1):=by
  rw[←List.take_append_drop i n.Elements]
  congr 1
  ·simp
  ·rw[List.take_append_drop,List.drop_eq_getElem_cons hi]
   rw[List.getElem?_eq_getElem hi] at hx
   cases hx
   rfl
 rw[e,List.flatMap_append,List.flatMap_cons,List.nodup_append,List.nodup_append] at hd
 obtain⟨_,⟨h2,_,_⟩,h3⟩:=hd
 exact⟨h2,fun p hp hu=>h3 p hu p (List.mem_append_left _ hp) rfl⟩
include hv hI hx in
theorem Qv3 (f:Qaa→Int):Qhy f (Qjh n (i+1)) (Qit 0 o)=Qhy f (Qjh n i) (Qit 0 o)-((x.From.map (Qe3 o)).map f).sum:=by
 obtain⟨h1,h2⟩:=Zbe hv hx
 rw[Q5f hx,Qws (V:=x.From.map pq++Qjh n i) (fun y _=>by simp[or_comm])]
 refine Qwr f (Qw7 o 0) _ _ _ (by simp) (fun j p s hp hs=>?_) h1 h2
 rw[List.getElem?_map,Option.map_eq_some_iff] at hp hs
 obtain⟨a,ha,rfl⟩:=hp
 obtain⟨b,hb,rfl⟩:=hs
 rw[ha] at hb
 cases hb
 exact(Qte hv hI hx (List.mem_of_getElem? ha)).1
include hv in
theorem Zkf (f:Qaa→Int) (r:List Qaa) (hlo:o.length=i):Qhy f (Qjh n (i+1)) (Qit 0 (o++[r]))=Qhy f (Qjh n (i+1)) (Qit 0 o)+(r.map f).sum:=by
 rw[Qt8,Q3a,Nat.zero_add,hlo,Q3q]
 congr 1
 refine Q29 f (fun p hp=>?_) r 0
 unfold Qjh at hp
 obtain⟨y,hy,hp⟩:=List.mem_flatMap.1 hp
 obtain⟨q,hq,rfl⟩:=List.mem_map.1 hp
 obtain⟨k,hk,e⟩:=List.mem_take_iff_getElem.1 hy
 have:=(hv.port k y q (by rw[←e];exact List.getElem?_eq_getElem (by omega)) hq).2.1
 intro he
 have:(pq q).1=q.Element:=rfl
 omega
include hI in
theorem Zgd (f:Qaa→Int) (hf0:∀s,StrV s→0≤f s) (U:List (Int×Int)):0≤Qhy f U (Qit 0 o):=by
 refine Qt5 fun y hy=>?_
 obtain⟨⟨a,b⟩,s⟩:=y
 obtain⟨_,_,r,h1,h2⟩:=Qpi.1 hy
 exact hf0 _ (hI.v r (List.mem_of_getElem? h1) s (List.mem_of_getElem? h2))
include hf in
theorem Q8j (k:Nat):(totS (ws.take k)).Mass≤1000000∧(totS (ws.take k)).Gas≤1000000000:=by
 have h:=Q5i (ws.take k) (ws.drop k)
 rw[List.take_append_drop] at h
 have hm:=hf.m
 have hg:=hf.g
 rw[h] at hm hg
 have hd:=Qo5 fun s hs=>hf.v s (List.mem_of_mem_drop (i:=k) hs)
 have:=hd.m0
 have:=hd.g0
 dsimp only at hm hg
 omega
theorem Qhd {α:Type}(f:α→Int):∀(l:List α),(∀x∈l,0≤f x)→0≤(l.map f).sum
 |[],_=>by simp
 |x::l,h=>by
  have h1:=Qhd f l fun y hy=>h y (List.mem_cons_of_mem x hy)
  have h2:=h x List.mem_cons_self
  simp only[List.map_cons,List.sum_cons]
  omega
include hv hf hI hx in
theorem Zn9:(∀s∈insE o (ws.drop (wcn n i)) x,StrV s)∧StrV (totS (insE o (ws.drop (wcn n i)) x)):=by
 have hxm:=List.mem_of_getElem? hx
 by_cases h1:x.Kind=1
 ·have e:insE o (ws.drop (wcn n i)) x=(ws.drop (wcn n i)).take 1:=by unfold insE;rw[if_pos h1]
  rw[e]
  have hw:=Qpp hx
  rw[if_pos h1] at hw
  have hle:=Zfa (n:=n) (i:=i+1)
  have hlt:wcn n i<ws.length:=by rw[hf.len];omega
  rw[List.drop_eq_getElem_cons hlt]
  have hs:=hf.v _ (List.getElem_mem hlt)
  rw[List.take_succ_cons,List.take_zero,Qn6]
  exact⟨fun s h=>by rw[List.mem_singleton] at h;rw[h];exact hs,hs⟩
 ·have e:insE o (ws.drop (wcn n i)) x=x.From.map (Qe3 o):=by unfold insE;rw[if_neg h1]
  rw[e]
  have hall:∀s∈x.From.map (Qe3 o),StrV s:=fun s hs=>by
   obtain⟨p,hp,rfl⟩:=List.mem_map.1 hs
   exact(Qte hv hI hx hp).2.1
  refine⟨hall,Zjq hall ?_ ?_⟩
  ·have h2:=Qv3 hv hI hx (fun s=>s.Mass)
   have h3:=Zgd hI (fun s=>s.Mass) (fun s hs=>hs.m0) (Qjh n (i+1))
   have h4:=(Q8j hf (wcn n i)).1
   rw[←hI.m] at h4
   show((x.From.map (Qe3 o)).map fun s=>s.Mass).sum≤_
   omega
  ·have h2:=Qv3 hv hI hx (fun s=>s.Gas)
   have h3:=Zgd hI (fun s=>s.Gas) (fun s hs=>hs.g0) (Qjh n (i+1))
   have h4:=(Q8j hf (wcn n i)).2
   have h5:=Qhd (fun l:Qa1=>l.Gas) ls fun l hl=>(hI.l0 l hl).2.2.1
   rw[←hI.g] at h4
   show((x.From.map (Qe3 o)).map fun s=>s.Gas).sum≤_
   omega
include hv hf hI hx in
theorem Qut (f:Qaa→Int) (hf1:∀l m:List Qaa,((l++m).map f).sum=(l.map f).sum+(m.map f).sum) (r:List Qaa) :
  Qhy f (Qjh n (i+1)) (Qit 0 (o++[r]))=Qhy f (Qjh n i) (Qit 0 o)+((ws.take (wcn n (i+1))).map f).sum-((ws.take (wcn n i)).map f).sum-((insE o (ws.drop (wcn n i)) x).map f).sum+(r.map f).sum:=by
 rw[Zkf hv f r hI.lo,Qv3 hv hI hx f]
 by_cases h1:x.Kind=1
 ·have e:insE o (ws.drop (wcn n i)) x=(ws.drop (wcn n i)).take 1:=by unfold insE;rw[if_pos h1]
  have hw:=Qpp hx
  rw[if_pos h1] at hw
  have hle:=Zfa (n:=n) (i:=i+1)
  have hlt:wcn n i<ws.length:=by rw[hf.len];omega
  have hfr:=(Qst (hv.alone x (List.mem_of_getElem? hx))).well h1
  rw[e,hfr,hw,Qm1 (List.getElem?_eq_getElem hlt),hf1,List.drop_eq_getElem_cons hlt]
  simp only[List.map_nil,List.sum_nil,List.take_succ_cons,List.take_zero,List.map_cons,List.sum_cons]
  omega
 ·have e:insE o (ws.drop (wcn n i)) x=x.From.map (Qe3 o):=by unfold insE;rw[if_neg h1]
  have hw:=Qpp hx
  rw[if_neg h1] at hw
  rw[e,hw,Nat.add_zero]
  omega
include hv hf hI hx in
theorem Q81 {a:List Qaa×Qa1×Int}(ha:Zs5 x (totS (insE o (ws.drop (wcn n i)) x)) a):InvT n ws (i+1) (o++[a.1]) (ls++[a.2.1]):=by
 obtain⟨k1,k2,k3,k4,k5,k6,k7,k8,k9,k10,_,_⟩:=ha
 have sa:∀f:Qaa→Int,∀l m:List Qaa,((l++m).map f).sum=(l.map f).sum+(m.map f).sum:=fun f l m=>by simp
 refine⟨by simp[hI.lo],by simp[hI.ll],fun k y r hy hr=>?_,fun r hr s hs=>?_,?_,?_,?_,?_,fun l hl=>?_⟩
 ·by_cases hk:k<i
  ·rw[List.getElem?_append_left (by rw[hI.lo];exact hk)] at hr
   exact hI.rows k y r hy hr
  ·rw[List.getElem?_append_right (by rw[hI.lo];omega),hI.lo] at hr
   have:k=i:=by
    have:=(List.getElem?_eq_some_iff.1 hr).1
    simp at this
    omega
   subst this
   rw[hx] at hy
   cases hy
   simp at hr
   subst hr
   exact k2
 ·rcases List.mem_append.1 hr with hr |hr
  ·exact hI.v r hr s hs
  ·simp at hr;subst hr;exact k1 s hs
 ·rw[Qut hv hf hI hx _ (sa _),hI.m]
  have e1:(a.1.map fun s=>s.Mass).sum=(totS a.1).Mass:=rfl
  have e2:((insE o (ws.drop (wcn n i)) x).map fun s=>s.Mass).sum=(totS (insE o (ws.drop (wcn n i)) x)).Mass:=rfl
  have e3:∀k,((ws.take k).map fun s=>s.Mass).sum=(totS (ws.take k)).Mass:=fun _=>rfl
  rw[e1,e2,e3,e3]
  omega
 ·rw[Qut hv hf hI hx _ (sa _)]
  have e1:(a.1.map fun s=>s.Heat).sum=(totS a.1).Heat:=rfl
  have e2:((insE o (ws.drop (wcn n i)) x).map fun s=>s.Heat).sum=(totS (insE o (ws.drop (wcn n i)) x)).Heat:=rfl
  have e3:∀k,((ws.take k).map fun s=>s.Heat).sum=(totS (ws.take k)).Heat:=fun _=>rfl
  have h:=hI.h
  rw[e1,e2,e3,e3,List.map_append,List.sum_append]
  simp only[List.map_cons,List.map_nil,List.sum_cons,List.sum_nil]
  omega
 ·rw[Qut hv hf hI hx _ (sa _)]
  have e1:(a.1.map fun s=>s.Silica).sum=(totS a.1).Silica:=rfl
  have e2:((insE o (ws.drop (wcn n i)) x).map fun s=>s.Silica).sum=(totS (insE o (ws.drop (wcn n i)) x)).Silica:=rfl
  have e3:∀k,((ws.take k).map fun s=>s.Silica).sum=(totS (ws.take k)).Silica:=fun _=>rfl
  have h:=hI.q
  rw[e1,e2,e3,e3,List.map_append,List.sum_append,List.map_append,List.sum_append]
  simp only[List.map_cons,List.map_nil,List.sum_cons,List.sum_nil]
  omega
 ·rw[Qut hv hf hI hx _ (sa _)]
  have e1:(a.1.map fun s=>s.Gas).sum=(totS a.1).Gas:=rfl
  have e2:((insE o (ws.drop (wcn n i)) x).map fun s=>s.Gas).sum=(totS (insE o (ws.drop (wcn n i)) x)).Gas:=rfl
  have e3:∀k,((ws.take k).map fun s=>s.Gas).sum=(totS (ws.take k)).Gas:=fun _=>rfl
  have h:=hI.g
  rw[e1,e2,e3,e3,List.map_append,List.sum_append]
  simp only[List.map_cons,List.map_nil,List.sum_cons,List.sum_nil]
  omega
 ·rcases List.mem_append.1 hl with hl |hl
  ·exact hI.l0 l hl
  ·simp at hl;subst hl;exact⟨k7,k8,k9,k10⟩
include hv hf hI hx in
theorem Q82:Zs5 x (totS (insE o (ws.drop (wcn n i)) x)) (actE n.Table x (totS (insE o (ws.drop (wcn n i)) x))):=
 Q9y hv.tab (Qst (hv.alone x (List.mem_of_getElem? hx))) (hv.level x (List.mem_of_getElem? hx)) (Zn9 hv hf hI hx).2
end
end
section
open Go.RowKit
def ofL (k:Int):Nat→List Qad→List Int
 |_,[]=>[]
 |i,x::l=>if x.Kind=k then(i:Int)::ofL k (i+1) l else ofL k (i+1) l
theorem Qwt (k:Int):∀(l:List Qad) (i:Nat),(ofL k i l).length=(l.filter fun x=>decide (x.Kind=k)).length
 |[],_=>rfl
 |x::l,i=>by
  rw[ofL,List.filter_cons]
  by_cases h:x.Kind=k
  ·rw[if_pos h,if_pos (by simpa using h),List.length_cons,List.length_cons,Qwt k l]
  ·rw[if_neg h,if_neg (by simpa using h),Qwt k l]
theorem Q5x (k:Int):∀(l:List Qad) (i:Nat),∀z∈ofL k i l,(i:Int)≤z∧z<(i:Int)+l.length
 |[],_,z,h=>by simp[ofL] at h
 |x::l,i,z,h=>by
  rw[ofL] at h
  simp only[List.length_cons]
  by_cases hk:x.Kind=k
  ·rw[if_pos hk] at h
   rcases List.mem_cons.1 h with rfl |h
   ·omega
   ·have:=Q5x k l (i+1) z h;omega
  ·rw[if_neg hk] at h
   have:=Q5x k l (i+1) z h;omega
theorem Qy0 (k:Int):∀(l m:List Qad) (i:Nat),ofL k i (l++m)=ofL k i l++ofL k (i+l.length) m
 |[],m,i=>by simp[ofL]
 |x::l,m,i=>by
  rw[List.cons_append,ofL,ofL,Qy0 k l m (i+1),List.length_cons,show i+1+l.length=i+(l.length+1) by omega]
  by_cases h:x.Kind=k
  ·rw[if_pos h,if_pos h,List.cons_append]
  ·rw[if_neg h,if_neg h]
section
variable {N : Nat} {n : GNet} (hs : Qjy n) (hN : 1001 ≤ N)
include hs in
theorem Zrf (k:Int) (c:List Int→Option (List Int)):∀(m i:Nat) (acc:List Int),(n.Elements.drop i).length<m→acc.length≤i→Qek N n k c m acc i=c (acc++ofL k i (n.Elements.drop i)):=by
 intro m
 induction m with
 |zero=>intro i _ h;exact absurd h (Nat.not_lt_zero _)
 |succ m ih=>
  intro i acc h ha
  rw[Qek]
  cases hd:n.Elements.drop i with
  |nil=>
   have:=Qb4 hd
   simp[show ¬((i:Int)<n.Elements.length) from by omega,ofL]
  |cons x l=>
   obtain⟨hg,hd',hlt⟩:=Qbs hd
   have e0:=hs.e
   simp only[show decide ((i:Int)<n.Elements.length)=true from by simpa using hlt,cond_true,Qb6 hg,Option.bind_some]
   rw[Qbm (x:=(i:Int)+1) (by omega) (by omega),show(i:Int)+1=((i+1:Nat):Int) by omega,ofL]
   by_cases hk:x.Kind=k
   ·rw[show(x.Kind==k)=true by simpa using hk,cond_true,if_pos hk]
    simp only[chk]
    rw[show decide ((acc.length+[(i:Int)].length)*8≤140737488355328)=true by simp;omega,cond_true,ih (i+1) _ (by rw[hd'];rw[hd] at h;simp at h;omega) (by simp;omega),hd',List.append_assoc]
    rfl
   ·rw[show(x.Kind==k)=false by simpa using hk,cond_false,if_neg hk,ih (i+1) _ (by rw[hd'];rw[hd] at h;simp at h;omega) (by omega),hd']
include hs hN in
theorem Zn7 (k:Int):Qjt N n k=some (ofL k 0 n.Elements):=by
 have e0:=hs.e
 unfold Qjt
 simp only[Qbn]
 refine(Zrf hs k _ N 0 [] (by simp;omega) (by simp)).trans ?_
 rw[List.drop_zero,List.nil_append]
theorem Zbd (P S:List Int) (p:Int) (hp:p∉P) (hl:P.length≤1000) (k:Unit→Option Int):∀(m i:Nat),P.length-i<m→i≤P.length→Qc1 N (P++p::S) k p m i=some (P.length:Int):=by
 intro m
 induction m with
 |zero=>intro i h;exact absurd h (Nat.not_lt_zero _)
 |succ m ih=>
  intro i h hi
  rw[Qc1]
  rw[show decide ((i:Int)<((P++p::S).length:Int))=true by simp;omega,cond_true]
  by_cases hlt:i<P.length
  ·have hg:(P++p::S)[i]? = some P[i]:=by rw[List.getElem?_append_left hlt,List.getElem?_eq_getElem hlt]
   rw[Qb6 hg,Option.bind_some,show(p==P[i])=false by rw[beq_eq_false_iff_ne];intro e;exact hp (e▸List.getElem_mem hlt),cond_false,Qbm (x:=(i:Int)+1) (by omega) (by omega),show(i:Int)+1=((i+1:Nat):Int) by omega]
   exact ih (i+1) (by omega) (by omega)
  ·have e:i=P.length:=by omega
   subst e
   have hg:(P++p::S)[P.length]? = some p:=by rw[List.getElem?_append_right (Nat.le_refl _)];simp
   rw[Qb6 hg,Option.bind_some,beq_self_eq_true,cond_true]
include hs hN in
theorem Zqs {i:Nat}{x:Qad}(hx:n.Elements[i]? = some x) (h1:x.Kind=1):Qfu N (ofL 1 0 n.Elements) i=some (wcn n i:Int):=by
 have hi:=(List.getElem?_eq_some_iff.1 hx).1
 have e0:=hs.e
 have e:n.Elements=n.Elements.take i++x::n.Elements.drop (i+1):=by
  have:n.Elements.drop i=x::n.Elements.drop (i+1):=by
   rw[List.drop_eq_getElem_cons hi]
   rw[List.getElem?_eq_getElem hi] at hx
   cases hx
   rfl
  rw[←this,List.take_append_drop]
 have hlt:(n.Elements.take i).length=i:=by rw[List.length_take];omega
 have e2:ofL 1 0 n.Elements=ofL 1 0 (n.Elements.take i)++(i:Int)::ofL 1 (i+1) (n.Elements.drop (i+1)):=by
  have e3:ofL 1 0 n.Elements=ofL 1 0 (n.Elements.take i++x::n.Elements.drop (i+1)):=congrArg (ofL 1 0) e
  rw[e3,Qy0,hlt,ofL,if_pos h1,Nat.zero_add]
 have hlen:(ofL 1 0 (n.Elements.take i)).length=wcn n i:=Qwt 1 _ 0
 have hb:wcn n i≤18:=by
  rw[←hlen,Qwt]
  have:=List.length_filter_le (fun x:Qad=>decide (x.Kind=1)) (n.Elements.take i)
  omega
 unfold Qfu
 simp only[Qbn]
 rw[e2]
 have:=Zbd (N:=N) (ofL 1 0 (n.Elements.take i)) (ofL 1 (i+1) (n.Elements.drop (i+1))) (i:Int) (fun hm=>by
  have:=Q5x 1 _ 0 _ hm
  omega) (by omega) (fun _=>some (-1)) N 0 (by omega) (Nat.zero_le _)
 rw[hlen] at this
 exact this
theorem Qqn (k:List Qaa→Option (List Qaa)):∀(q y:List Qaa),y.length+q.length≤1000→Qa2 N k q y=k (y++q)
 |[],y,_=>by simp[Qa2]
 |x::q,y,h=>by
  have hc:decide ((y.length+[x].length)*32≤140737488355328)=true:=by simp at h ⊢;omega
  rw[Qa2]
  simp only[chk]
  rw[hc,cond_true,Qqn k q _ (by simp at h ⊢;omega)]
  simp
end
section
variable {N : Nat} {n : GNet} (hs : Qjy n) (hN : 1001 ≤ N) (hv : NetV n) {ws : List Qaa} (hf : FedV n ws) {i : Nat} {o : List (List Qaa)} {ls : List Qa1} (hI : InvT n ws i o ls) {x : Qad} (hx : n.Elements[i]? = some x)
include hv hI hx in
theorem Zg2 (hfr:x.From.length≤1000) (R:List (List Qaa)):∀(m j:Nat),(x.From.drop j).length<m→Qdy N x (o++R) m j=some ((x.From.drop j).map (Qe3 o)):=by
 intro m
 induction m with
 |zero=>intro j h;exact absurd h (Nat.not_lt_zero _)
 |succ m ih=>
  intro j h
  rw[Qdy]
  cases hd:x.From.drop j with
  |nil=>
   have:=Qb4 hd
   simp[show ¬((j:Int)<x.From.length) from by omega]
  |cons p l=>
   obtain⟨hg,hd',hlt⟩:=Qbs hd
   have hpm:=List.mem_of_getElem? hg
   obtain⟨p1,_,_,_,p4,_,_⟩:=hv.port i x p hx hpm
   obtain⟨_,_,r,hr,hr2⟩:=Qte hv hI hx hpm
   have g1:getI (o++R) p.Element=some r:=by
    unfold getI
    rw[if_pos p1,List.getElem?_append_left (List.getElem?_eq_some_iff.1 hr).1,hr]
   have g2:getI r p.Outlet=some (Qe3 o p):=by
    unfold getI
    rw[if_pos p4,hr2]
   simp only[show decide ((j:Int)<x.From.length)=true from by simpa using hlt,cond_true,Qb6 hg,Option.bind_some,g1,g2]
   rw[Qbm (x:=(j:Int)+1) (by omega) (by omega),show(j:Int)+1=((j+1:Nat):Int) by omega,ih (j+1) (by rw[hd'];rw[hd] at h;simp at h;omega),hd']
   rfl
include hs hN hv hf hI hx in
theorem Zrp (R:List (List Qaa)) (L:List Qa1) (S:List Int) (y:Int):Qcc N n.Table n.Elements (o++R) L S ws y i=some (insE o (ws.drop (wcn n i)) x):=by
 have hxs:=hs.x x (List.mem_of_getElem? hx)
 have hS:Qho N n.Table n.Elements (o++R) L S ws y i=some (insE o (ws.drop (wcn n i)) x):=by
  unfold Qho insE
  rw[Qb6 hx,Option.bind_some]
  by_cases h1:x.Kind=1
  ·rw[show(x.Kind==1)=true by simpa using h1,cond_true,if_pos h1]
   have hw:=Qpp hx
   rw[if_pos h1] at hw
   have hle:=Zfa (n:=n) (i:=i+1)
   have hlt:wcn n i<ws.length:=by rw[hf.len];omega
   rw[Zn7 hs hN 1,Option.bind_some,Zqs hs hN hx h1,Option.bind_some,Qb6 (List.getElem?_eq_getElem hlt),Option.bind_some,List.drop_eq_getElem_cons hlt]
   rfl
  ·rw[show(x.Kind==1)=false by simpa using h1,cond_false,if_neg h1]
   have:=Zg2 (N:=N) hv hI hx (by omega) R N 0 (by simp;omega)
   rw[List.drop_zero] at this
   exact this
 unfold Qcc Qcm
 simp only[Qbn,hS,Option.bind_some]
 have hlen:(insE o (ws.drop (wcn n i)) x).length≤100:=by
  unfold insE
  split
  ·rw[List.length_take];omega
  ·rw[List.length_map];omega
 rw[Qqn _ _ _ (by simp;omega)]
 rfl
end
theorem Qus {α:Type}{l:List α}{i:Nat}{x:α}(h:l[i]? = some x):l.set i x=l:=by
 obtain⟨h1,h2⟩:=List.getElem?_eq_some_iff.1 h
 subst h2
 exact List.set_getElem_self h1
section
variable {N : Nat} {n : GNet} (hN : 1001 ≤ N) (hv : NetV n) (ht : n.Table.length ≤ 1000) {i : Nat} {x : Qad} (hx : n.Elements[i]? = some x) {s : Qaa} (hst : StrV s) {D nW : Nat} {ws : List Qaa} {y : Int} {O : List (List Qaa)} {Ls : List Qa1} {Ss : List Int} {d : Int}
 (hlo:i<D) (hLs:Ls[i]? = some ⟨0,0,0,0⟩) (hSs:Ss[i]? = some d) (hd0:0≤d) (hd1:d≤1000000000000000) (hO:∃r,O[i]? = some r) (hy0:0≤y) (hy1:y≤1000000000)
include hN hst hlo in
theorem Q2r {wts:List Int}(hw:WtsV wts) {l0:Qa1}(hL:Ls[i]? = some l0) (hl:i<Ls.length):Qfz N i s wts n.Table n.Elements D D nW ws y O Ls Ss=some (Qiu s wts,Ls.set i ⟨(Qnk s wts).Heat,(Qnk s wts).Silica,(Qnk s wts).Gas,l0.Scale⟩):=by
 have c1:(decide ((0:Int)≤(i:Int))&&decide (i<D))=true:=by simp;omega
 have e:∀q:Qa1,(Ls.set i q)[i]? = some q:=fun q=>List.getElem?_set_self hl
 unfold Qfz
 rw[Zj4 hst hw hN]
 simp only[Option.bind_some,chk,c1,cond_true,Int.toNat_natCast,hL,e,List.set_set]
include hN hv ht hx hst hlo hLs hSs hd0 hd1 hy0 hy1 in
theorem Q5m (hln:i<Ls.length) (h4:x.Kind=4):Qfv N i s n.Table n.Elements D D D ws y O Ls Ss=some ((actE n.Table x s).1,y+(actE n.Table x s).2.2,Ls.set i (actE n.Table x s).2.1,Ss.set i (d+(actE n.Table x s).2.1.Scale)):=by
 have hxm:=List.mem_of_getElem? hx
 have hA:=Qst (hv.alone x hxm)
 have hlv:=hv.level x hxm
 have hrow:=(Zfu hv.tab (Qga.2 hlv)).2
 have hk:=Q89 (r:=Qis n.Table x.Level) hrow hst
 have hK:=Q9y hv.tab hA hlv hst
 have c1:(decide ((0:Int)≤(i:Int))&&decide (i<D))=true:=by simp;omega
 have ef:Q88 n.Table x.Level s=(flG (Qis n.Table x.Level) s,0):=by
  unfold Q88 Qis
  rw[hv.tab,Qpr.2 hst,Qga.2 hlv];rfl
 have hq1:=hst.s1
 have hm1:=hst.m1
 have cv:=Qo5 hK.v
 have:=cv.s0
 unfold Qfv
 simp only[Qb6 hx,Option.bind_some,Zkq hN ht,ef,chk,c1,cond_true,Int.toNat_natCast,hLs,hSs]
 by_cases h0:x.Amount=0
 ·have ha:actE n.Table x s=([(flG (Qis n.Table x.Level) s).Steam,(flG (Qis n.Table x.Level) s).Water],⟨0,0,0,(flG (Qis n.Table x.Level) s).Scale⟩,(flG (Qis n.Table x.Level) s).Steam.Mass):=by
   unfold actE
   rw[if_neg (show ¬x.Kind=3 by omega),if_pos h4,if_pos h0]
  rw[ha] at hK
  obtain⟨_,_,_,_,cs,_,_,cq,_,cc,t0,t1⟩:=hK
  dsimp only at t0 t1 cs cc cq
  have:=hk.km
  have:=hk.wa.m0
  have:=hk.ks
  have:=hk.wa.s0
  rw[ha,show(x.Amount==0)=true by simpa using h0,cond_true]
  rw[Qbm (x:=y+_) (by omega) (by omega),Qbm (x:=d+_) (by omega) (by omega)]
 ·have ha:actE n.Table x s=([totS [(flG (Qis n.Table x.Level) s).Steam,(Qiu (flG (Qis n.Table x.Level) s).Water [1000-x.Amount,x.Amount]).getD 1 zs],(Qiu (flG (Qis n.Table x.Level) s).Water [1000-x.Amount,x.Amount]).getD 0 zs],
   ⟨(Qnk (flG (Qis n.Table x.Level) s).Water [1000-x.Amount,x.Amount]).Heat,(Qnk (flG (Qis n.Table x.Level) s).Water [1000-x.Amount,x.Amount]).Silica,(Qnk (flG (Qis n.Table x.Level) s).Water [1000-x.Amount,x.Amount]).Gas,(flG (Qis n.Table x.Level) s).Scale⟩,(flG (Qis n.Table x.Level) s).Steam.Mass):=by
   unfold actE
   rw[if_neg (show ¬x.Kind=3 by omega),if_pos h4,if_neg h0]
  have hav:=hA.a4 h4
  have hw:=Zff (a:=x.Amount) (by omega) hav.2
  have:=hk.km
  have:=hk.st.m0
  have:=hk.wa.m0
  have:=hk.ks
  have:=hk.wa.s0
  have:=hk.sc
  rw[ha,show(x.Amount==0)=false by simpa using h0,cond_false,Qbm (x:=y+_) (by omega) (by omega),Qbm (x:=d+_) (by omega) (by omega),Qbm (x:=1000-x.Amount) (by omega) (by omega)]
  have hsh:=Q2r (N:=N) (n:=n) (nW:=D) (ws:=ws) (y:=y+(flG (Qis n.Table x.Level) s).Steam.Mass) (O:=O) (Ss:=Ss.set i (d+(flG (Qis n.Table x.Level) s).Scale)) (Ls:=Ls.set i ⟨0,0,0,(flG (Qis n.Table x.Level) s).Scale⟩) (l0:=⟨0,0,0,(flG (Qis n.Table x.Level) s).Scale⟩) hN hk.wa hlo hw (List.getElem?_set_self hln) (by rw[List.length_set];exact hln)
  obtain⟨u,v,hp⟩:=Q2j (s:=(flG (Qis n.Table x.Level) s).Water) (a:=1000-x.Amount) (b:=x.Amount)
  have hKp:=Qny hk.wa hw
  rw[hp] at hsh hKp ⊢
  have htot:Qgk N [(flG (Qis n.Table x.Level) s).Steam,v]=some (totS [(flG (Qis n.Table x.Level) s).Steam,v]):=by
   rw[Q5j (by simp) hN,Qvz (fun z hz=>by
    simp at hz
    rcases hz with rfl |rfl
    ·exact hk.st
    ·exact hKp.v _ (by simp)) (by simp)]
  refine(congrArg (fun z=>Option.bind z _) hsh).trans ?_
  simp only[Option.bind_some,show getI [u,v] 1=some v from rfl,show getI [u,v] 0=some u from rfl,List.set_set]
  exact congrArg (fun z=>Option.bind z _) htot
include hN hv ht hx hst hlo hLs hSs hd0 hd1 hO hy0 hy1 in
theorem Zsp (hln:i<Ls.length) (hD:D=O.length) (hDl:D=Ls.length) (hDs:D=Ss.length) {w:Int}(hw:s.Mass≤w) {ins:List Qaa}(hin:Qcc N n.Table n.Elements O Ls Ss ws y i=some ins) (htot:Qgk N ins=some s) :
  Qdm N i w n.Table n.Elements D D D ws y O Ls Ss=some (.inl (y+(actE n.Table x s).2.2,O.set i (actE n.Table x s).1,Ls.set i (actE n.Table x s).2.1,Ss.set i (d+(actE n.Table x s).2.1.Scale))):=by
 have hxm:=List.mem_of_getElem? hx
 have hA:=Qst (hv.alone x hxm)
 obtain⟨r,hr⟩:=hO
 have c1:(decide ((0:Int)≤(i:Int))&&decide (i<D))=true:=by simp;omega
 unfold Qdm
 simp only[Qhp,Option.bind_some,chk,Qbn,show decide (D≤O.length)=true by simp;omega,show decide (D≤Ls.length)=true by simp;omega,show decide (D≤Ss.length)=true by simp;omega,cond_true]
 rw[show O.take D=O from by rw[hD,List.take_length],show Ls.take D=Ls from by rw[hDl,List.take_length],show Ss.take D=Ss from by rw[hDs,List.take_length],hin,Option.bind_some,htot,Option.bind_some,decide_eq_false (show ¬s.Mass>w by omega),cond_false,Qb6 hx,Option.bind_some]
 simp only[c1,cond_true,Int.toNat_natCast,hr,Option.bind_some,Qgf]
 have hpass:(actE n.Table x s)=([s],⟨0,0,0,0⟩,0)→(y,O.set i [s],Ls,Ss)=(y+(actE n.Table x s).2.2,O.set i (actE n.Table x s).1,Ls.set i (actE n.Table x s).2.1,Ss.set i (d+(actE n.Table x s).2.1.Scale)):=fun e=>by
  rw[e]
  simp only[Int.add_zero]
  rw[Qus hLs,Qus hSs]
 by_cases h1:x.Kind=1
 ·rw[h1]
  simp only[show((1:Int)==0)=false from rfl,show((1:Int)==1)=true from rfl,cond_true,cond_false]
  rw[hpass (by unfold actE;rw[if_neg (by omega),if_neg (by omega),if_neg (by omega)])]
 by_cases h2:x.Kind=2
 ·rw[h2]
  simp only[show((2:Int)==0)=false from rfl,show((2:Int)==1)=false from rfl,show((2:Int)==2)=true from rfl,cond_true,cond_false]
  rw[hpass (by unfold actE;rw[if_neg (by omega),if_neg (by omega),if_neg (by omega)])]
 by_cases h3:x.Kind=3
 ·rw[h3]
  simp only[show((3:Int)==0)=false from rfl,show((3:Int)==1)=false from rfl,show((3:Int)==2)=false from rfl,show((3:Int)==3)=true from rfl,cond_true,cond_false]
  have e:actE n.Table x s=([⟨s.Mass,s.Heat-Qun x s,s.Silica,s.Gas⟩],⟨Qun x s,0,0,0⟩,0):=by unfold actE;rw[if_pos h3]
  have hc:0≤Qun x s∧Qun x s≤s.Heat:=by
   have:=hA.a3 h3
   have:=hst.h0
   unfold Qun;split<;>omega
  have:=hst.h1
  have:=hst.m1
  unfold Qi3
  simp only[Qb6 hx,Option.bind_some,chk,c1,cond_true,Int.toNat_natCast,hLs]
  rw[show(if s.Heat<x.Amount then s.Heat else x.Amount)=Qun x s from rfl,Qbm (x:=s.Heat-Qun x s) (by omega) (by omega),e]
  simp only[Int.add_zero]
  rw[Qus hSs]
 by_cases h4:x.Kind=4
 ·have hsep:=Q5m (N:=N) hN hv ht hx hst (ws:=ws) (O:=O) hlo hLs hSs hd0 hd1 hy0 hy1 hln h4
  rw[h4]
  simp only[show((4:Int)==0)=false from rfl,show((4:Int)==1)=false from rfl,show((4:Int)==2)=false from rfl,show((4:Int)==3)=false from rfl,show((4:Int)==4)=true from rfl,cond_true,cond_false,hsep,Option.bind_some]
 by_cases h5:x.Kind=5
 ·have hsh:=Q2r (N:=N) (n:=n) (nW:=D) (ws:=ws) (y:=y) (O:=O) (Ss:=Ss) (Ls:=Ls) hN hst hlo (hA.w5 h5) hLs hln
  have e:actE n.Table x s=(Qiu s x.Weights,⟨(Qnk s x.Weights).Heat,(Qnk s x.Weights).Silica,(Qnk s x.Weights).Gas,0⟩,0):=by unfold actE;rw[if_neg h3,if_neg h4,if_pos h5]
  rw[h5]
  unfold Qip
  simp only[show((5:Int)==0)=false from rfl,show((5:Int)==1)=false from rfl,show((5:Int)==2)=false from rfl,show((5:Int)==3)=false from rfl,show((5:Int)==4)=false from rfl,show((5:Int)==5)=true from rfl,cond_true,cond_false,Qb6 hx,Option.bind_some,hsh,e,Int.add_zero]
  rw[Qus hSs]
 have h6:x.Kind=6:=by have:=hA.k;omega
 rw[h6]
 simp only[show((6:Int)==0)=false from rfl,show((6:Int)==1)=false from rfl,show((6:Int)==2)=false from rfl,show((6:Int)==3)=false from rfl,show((6:Int)==4)=false from rfl,show((6:Int)==5)=false from rfl,show((6:Int)==6)=true from rfl,cond_true,cond_false]
 rw[hpass (by unfold actE;rw[if_neg h3,if_neg h4,if_neg h5])]
end
end
section
open Go.RowKit
theorem Zht {N:Nat}{n:GNet}{i:Nat}{w:Int}{D:Nat}{ws:List Qaa}{y:Int}{O:List (List Qaa)}{Ls:List Qa1}{Ss:List Int}{s:Qaa}(hD:D=O.length) (hDl:D=Ls.length) (hDs:D=Ss.length) (hw:¬s.Mass≤w) {ins:List Qaa}(hin:Qcc N n.Table n.Elements O Ls Ss ws y i=some ins) (htot:Qgk N ins=some s) :
  Qdm N i w n.Table n.Elements D D D ws y O Ls Ss=some (.inr i):=by
 unfold Qdm
 simp only[Qhp,Option.bind_some,chk,Qbn,show decide (D≤O.length)=true by simp;omega,show decide (D≤Ls.length)=true by simp;omega,show decide (D≤Ss.length)=true by simp;omega,cond_true]
 rw[show O.take D=O from by rw[hD,List.take_length],show Ls.take D=Ls from by rw[hDl,List.take_length],show Ss.take D=Ss from by rw[hDs,List.take_length],hin,Option.bind_some,htot,Option.bind_some,decide_eq_true (show s.Mass>w by omega),cond_true]
abbrev Qxu:=List (List Qaa)×List Qa1×List Int×Int
def Quo {β:Type}(r:Nat⊕Qxu) (f:Nat→β) (g:Qxu→β):β:=match r with |.inl a=>f a |.inr b=>g b
theorem Zft {α:Type}{o:List α}{i k:Nat}(h:o.length=i) (x y:α):(o++List.replicate (k+1) x).set i y=(o++[y])++List.replicate k x:=by
 rw[List.set_append_right _ _ (by omega),h,Nat.sub_self,List.replicate_succ,List.set_cons_zero,List.append_assoc]
 rfl
structure StV (n:GNet) (st:List Int):Prop where
 len:st.length=n.Elements.length
 bd:∀d∈st,0≤d∧d≤1000000000000000
theorem Zn1 {n:GNet}{st:List Int}(hst:stB n st=true):StV n st:=by
 unfold stB at hst
 simp only[Bool.and_eq_true,decide_eq_true_eq] at hst
 refine⟨hst.1,fun d hd=>?_⟩
 have:=Qga.1 (List.all_eq_true.1 hst.2 d hd)
 omega
theorem Qv7 {n:GNet}{st:List Int}(hst:StV n st):st.length=n.Elements.length:=hst.len
theorem Zuq {n:GNet}{st:List Int}(hst:StV n st) {i:Nat}(hi:i<n.Elements.length):∃d,st[i]? = some d∧0≤d∧d≤1000000000000000:=by
 have hl:=hst.len
 obtain⟨a,b⟩:=hst.bd (st[i]'(by omega)) (List.getElem_mem _)
 exact⟨st[i]'(by omega),List.getElem?_eq_getElem _,a,b⟩
section
variable {N : Nat} {n : GNet} (hs : Qjy n) (hN : 1001 ≤ N) (hv : NetV n) {ws : List Qaa} (hf : FedV n ws) {st : List Int} (hst : StV n st)
include hs hN hv hf hst in
theorem Zsq (k:List (List Qaa)×List Qa1×List Int×Int→Option (Int⊕(Int×Int×List (List Qaa)×List Qa1×List Int))):∀(m i:Nat) (o:List (List Qaa)) (ls:List Qa1) (ss:List Int) (y:Int),(n.Elements.drop i).length<m→i≤n.Elements.length→InvT n ws i o ls→ss.length=i→0≤y→y≤1000000*i →
  Qef N n st ws k m i (o++List.replicate (n.Elements.length-i) []) (ls++List.replicate (n.Elements.length-i) ⟨0,0,0,0⟩) (ss++st.drop i) y =
  Quo (Q2l n.Table ((n.Elements.drop i).zip (st.drop i)) (ws.drop (wcn n i)) o ls ss y) (fun a=>some (.inl (a:Int))) k:=by
 intro m
 induction m with
 |zero=>intro i _ _ _ _ h;exact absurd h (Nat.not_lt_zero _)
 |succ m ih=>
  intro i o ls ss y h hi hI hss hy0 hy1
  have hsl:=Qv7 hst
  have e0:=hs.e
  rw[Qef]
  cases hd:n.Elements.drop i with
  |nil=>
   have:=Qb4 hd
   have hi2:i=n.Elements.length:=by omega
   subst hi2
   rw[show decide ((n.Elements.length:Int)<(n.Elements.length:Int))=false by simp,cond_false,Nat.sub_self,show st.drop n.Elements.length=[] from List.drop_of_length_le (by omega)]
   simp[Q2l,Quo]
  |cons x l=>
   obtain⟨hg,hd',hlt⟩:=Qbs hd
   obtain⟨d,hgd,d0,d1⟩:=Zuq hst hlt
   have hds:st.drop i=d::st.drop (i+1):=by
    have hi:=(List.getElem?_eq_some_iff.1 hgd).1
    rw[List.drop_eq_getElem_cons hi]
    rw[List.getElem?_eq_getElem hi] at hgd
    cases hgd;rfl
   obtain⟨iv,it⟩:=Zn9 hv hf hI hg
   have hx:=hs.x x (List.mem_of_getElem? hg)
   have hinl:(insE o (ws.drop (wcn n i)) x).length≤100:=by
    unfold insE
    split
    ·rw[List.length_take];omega
    ·rw[List.length_map];omega
   have hk:n.Elements.length-i=(n.Elements.length-(i+1))+1:=by omega
   have hwid:=Ze8 N (hv.alone x (List.mem_of_getElem? hg)) d0 (show d≤9000000000000000000 by omega)
   simp only[show decide ((i:Int)<n.Elements.length)=true from by simpa using hlt,cond_true,Qb6 hg,Qb6 hgd,Option.bind_some,hwid,Int.toNat_natCast,hsl]
   have htot:Qgk N (insE o (ws.drop (wcn n i)) x)=some (totS (insE o (ws.drop (wcn n i)) x)):=by rw[Q5j (by omega) hN,Qvz iv (by omega)]
   have hin:=Zrp hs hN hv hf hI hg (List.replicate (n.Elements.length-i) []) (ls++List.replicate (n.Elements.length-i) ⟨0,0,0,0⟩) (ss++st.drop i) y
   have lO:n.Elements.length=(o++List.replicate (n.Elements.length-i) []).length:=by simp[hI.lo];omega
   have lL:n.Elements.length=(ls++List.replicate (n.Elements.length-i) (⟨0,0,0,0⟩:Qa1)).length:=by simp[hI.ll];omega
   have lS:n.Elements.length=(ss++st.drop i).length:=by simp[hss,hsl];omega
   rw[hds,List.zip_cons_cons,Q2l]
   by_cases hm:(totS (insE o (ws.drop (wcn n i)) x)).Mass>widI x d
   ·rw[if_pos hm,←hds,Zht lO lL lS (by omega) hin htot,hI.lo]
    rfl
   ·rw[if_neg hm]
    have hLs:(ls++List.replicate (n.Elements.length-i) (⟨0,0,0,0⟩:Qa1))[i]? = some ⟨0,0,0,0⟩:=by
     rw[List.getElem?_append_right (by rw[hI.ll];exact Nat.le_refl _),hI.ll,Nat.sub_self,hk,List.replicate_succ];rfl
    have hSs:(ss++st.drop i)[i]? = some d:=by
     rw[List.getElem?_append_right (by omega),hss,Nat.sub_self,hds];rfl
    have hO:∃r,(o++List.replicate (n.Elements.length-i) ([]:List Qaa))[i]? = some r:=⟨[],by
     rw[List.getElem?_append_right (by rw[hI.lo];exact Nat.le_refl _),hI.lo,Nat.sub_self,hk,List.replicate_succ];rfl⟩
    have hel:=Zsp (N:=N) hN hv (by have:=hs.t;omega) hg it (D:=n.Elements.length) hlt hLs hSs d0 (by omega) hO hy0 (by omega) (by rw[←lL];exact hlt) lO lL lS (w:=widI x d) (by omega) hin htot
    have hK:=Q82 hv hf hI hg
    have hI2:=Q81 hv hf hI hg hK
    rw[←hds,hel,Option.bind_some,Sum.elim_inl]
    dsimp only
    have hSet:(ss++st.drop i).set i (d+(actE n.Table x (totS (insE o (ws.drop (wcn n i)) x))).2.1.Scale)=(ss++[d+(actE n.Table x (totS (insE o (ws.drop (wcn n i)) x))).2.1.Scale])++st.drop (i+1):=by
     rw[hds,List.set_append_right _ _ (by omega),hss,Nat.sub_self,List.set_cons_zero,List.append_assoc]
     rfl
    rw[hSet,hk,Zft hI.lo,Zft hI.ll,Qbm (x:=(i:Int)+1) (by omega) (by omega),show(i:Int)+1=((i+1:Nat):Int) by omega]
    have t0:=hK.t0
    have t1:=hK.t1
    have hih:=ih (i+1) _ _ (ss++[d+(actE n.Table x (totS (insE o (ws.drop (wcn n i)) x))).2.1.Scale]) (y+(actE n.Table x (totS (insE o (ws.drop (wcn n i)) x))).2.2) (by rw[hd'];rw[hd] at h;simp at h;omega) hlt hI2 (by simp[hss]) (by omega) (by omega)
    rw[hd'] at hih
    refine hih.trans ?_
    have hw:ws.drop (wcn n (i+1))=if x.Kind=1 then(ws.drop (wcn n i)).drop 1 else ws.drop (wcn n i):=by
     rw[Qpp hg]
     split
     ·rw[List.drop_drop]
     ·rfl
    rw[hw]
def Qrw (n:GNet) (st:List Int) (ws:List Qaa):Nat⊕Qxu:=Q2l n.Table (n.Elements.zip st) ws [] [] [] 0
include hs hN hv hf hst in
theorem Zsr:Qfs N n st ws=Quo (Qrw n st ws) (fun a=>some (.inl (a:Int))) (fun r=>some (.inr (-1,r.2.2.2,r.1,r.2.1,r.2.2.1))):=by
 have e0:=hs.e
 have hsl:=Qv7 hst
 have hl1:=hv.len.1
 have hne:(!st.isEmpty)=true:=by
  cases st with
  |nil=>simp at hsl;omega
  |cons=>rfl
 unfold Qfs Qgc
 simp only[chk,hne,Qbn]
 rw[show(decide (0≤(n.Elements.length:Int))&&decide (24*(n.Elements.length:Int)≤281474976710656)&&decide ((n.Elements.length:Int)≤9223372036854775807))=true by simp;omega,show(decide (0≤(n.Elements.length:Int))&&decide (32*(n.Elements.length:Int)≤281474976710656)&&decide ((n.Elements.length:Int)≤9223372036854775807))=true by simp;omega,show decide ((0+st.length)*8≤140737488355328)=true by simp;omega]
 simp only[cond_true,Option.bind_some,Int.toNat_natCast]
 have:=Zsq hs hN hv hf hst (fun x=>match x with |(y12,y13,y14,y15)=>some (.inr (-1,y15,y12,y13,y14))) N 0 [] [] [] 0 (by simp;omega) (Nat.zero_le _) (Q3l n ws) rfl (Int.le_refl _) (by simp)
 simp only[List.nil_append,Nat.sub_zero,List.drop_zero,show wcn n 0=0 from rfl] at this
 refine this.trans ?_
 unfold Qrw
 rfl
end
def fedI (n:GNet) (ws:List Qaa):Int:=
 bif decide (ws.length=wcn n n.Elements.length)&&ws.all strB then(if (totS ws).Mass>1000000 then 3 else if (totS ws).Gas>1000000000 then 3 else 0) else 1
theorem Zmb (N:Nat) (s:Qaa):Qgz N s=some (bif strB s then 0 else 1):=by
 unfold Qgz
 rw[Qz1]
 cases strB s<;>rfl
theorem Zoa {N:Nat}{n:GNet}(hs:Qjy n) (hN:1001≤N) {ws:List Qaa}(hl:ws.length≤1000):Qi4 N n ws=some (fedI n ws):=by
 have hc:Qbz N ws=some (ws.any fun x=>!strB x):=by
  unfold Qbz Qcf Qbn
  refine Qjw (F:=Qbg N ws fun _=>some (-1)) (k:=fun _=>some (-1)) (q:=Qed N) (fun n y=>rfl) (fun x=>?_) rfl (by omega) (by omega)
  simp only[Qed,Qkb,Zmb,Option.bind_some]
  cases strB x<;>rfl
 have e0:=hs.e
 have hof:(ofL 1 0 n.Elements).length=wcn n n.Elements.length:=by rw[Qwt];unfold wcn;rw[List.take_length]
 unfold Qi4 Qf0 fedI
 simp only[Qbn,Zn7 hs hN 1,Option.bind_some,hc,Qxs,hof,Q5j hl hN]
 by_cases h1:ws.length=wcn n n.Elements.length
 ·rw[decide_eq_true h1,show((ws.length:Int) != (wcn n n.Elements.length:Int))=false by rw[bne_eq_false_iff_eq];omega]
  cases ha:ws.all strB with
  |false=>rfl
  |true=>
   have hall:∀s∈ws,StrV s:=fun s h=>Qpr.1 (List.all_eq_true.1 ha s h)
   rw[Qvz hall hl]
   simp only[cond_false,Bool.not_true,Bool.true_and,cond_true]
   by_cases h2:(totS ws).Mass>1000000
   ·rw[decide_eq_true h2,if_pos h2];rfl
   ·rw[decide_eq_false h2,if_neg h2]
    by_cases h3:(totS ws).Gas>1000000000
    ·rw[decide_eq_true h3,if_pos h3];rfl
    ·rw[decide_eq_false h3,if_neg h3];rfl
 ·rw[decide_eq_false h1,show((ws.length:Int) != (wcn n n.Elements.length:Int))=true by rw[bne_iff_ne];omega];rfl
theorem Zg8 {n:GNet}{ws:List Qaa}(h:fedI n ws=0):FedV n ws:=by
 unfold fedI at h
 cases hb:decide (ws.length=wcn n n.Elements.length)&&ws.all strB with
 |false=>rw[hb] at h;cases h
 |true=>
  rw[hb,cond_true] at h
  simp only[Bool.and_eq_true,decide_eq_true_eq] at hb
  by_cases h2:(totS ws).Mass>1000000
  ·rw[if_pos h2] at h;cases h
  ·rw[if_neg h2] at h
   by_cases h3:(totS ws).Gas>1000000000
   ·rw[if_pos h3] at h;cases h
   ·exact⟨hb.1,fun s hs=>Qpr.1 (List.all_eq_true.1 hb.2 s hs),by omega,by omega⟩
def Qln (n:GNet) (st:List Int) (ws:List Qaa):Int:=bif netB n&&stB n st then fedI n ws else 1
theorem Q8o {N:Nat}{n:GNet}(hs:Qjy n) (hN:1001≤N) {st:List Int}{ws:List Qaa}(hl:ws.length≤1000) (hl2:st.length≤1000):Qkt N n st ws=some (Qln n st ws):=by
 unfold Qkt Qln
 rw[Q2n hs hN hl2,Option.bind_some]
 cases netB n&&stB n st with
 |false=>rfl
 |true=>simp only[cond_true,show((0:Int) != 0)=false from rfl,cond_false,Zoa hs hN hl,Option.bind_some]
def Zum:Qhw:=⟨[],[],[]⟩
def doA (n:GNet) (st:List Int) (ws:List Qaa):Qhw×Int×Int:=
 if Qln n st ws=0 then Quo (Qrw n st ws) (fun a=>(Zum,(a:Int),11)) (fun r=>(⟨r.1,r.2.1,r.2.2.1⟩,0,0)) else(Zum,0,Qln n st ws)
theorem Qwg {n:GNet}{st:List Int}{ws:List Qaa}(h:Qln n st ws=0):NetV n∧StV n st∧FedV n ws∧netB n=true:=by
 unfold Qln at h
 cases hb:netB n&&stB n st with
 |false=>rw[hb] at h;cases h
 |true=>
  rw[hb] at h
  rw[Bool.and_eq_true] at hb
  exact⟨Q5z hb.1,Zn1 hb.2,Zg8 h,hb.1⟩
structure Zs4 (n:GNet) (st:List Int) (ws:List Qaa) (r:Qxu):Prop where
 inv:InvT n ws n.Elements.length r.1 r.2.1
 ss:r.2.2.1=List.zipWith (fun (d:Int) (l:Qa1)=>d+l.Scale) st r.2.1
 y0:0≤r.2.2.2
theorem Q8k {n:GNet}(hv:NetV n) {ws:List Qaa}(hf:FedV n ws) {st:List Int}(hst:StV n st):∀(l:List (Qad×Int)) (i:Nat) (o:List (List Qaa)) (ls:List Qa1) (ss:List Int) (y:Int) (r:Qxu),
  l=(n.Elements.drop i).zip (st.drop i)→i≤n.Elements.length→InvT n ws i o ls→ss=List.zipWith (fun (d:Int) (q:Qa1)=>d+q.Scale) (st.take i) ls→0≤y→Q2l n.Table l (ws.drop (wcn n i)) o ls ss y=.inr r→Zs4 n st ws r
 |[],i,o,ls,ss,y,r,hl,hi,hI,hss,hy,h=>by
  have hsl:=Qv7 hst
  have hlen:(n.Elements.drop i).length=0:=by
   have:=congrArg List.length hl
   rw[List.length_zip,List.length_drop,List.length_drop] at this
   simp at this
   rw[List.length_drop];omega
  rw[List.length_drop] at hlen
  have e:i=n.Elements.length:=by omega
  rw[Q2l] at h
  cases h
  subst e
  exact⟨hI,by dsimp only;rw[hss,List.take_of_length_le (by omega)],hy⟩
 |(x,d)::l,i,o,ls,ss,y,r,hl,hi,hI,hss,hy,h=>by
  have hsl:=Qv7 hst
  have hlt:i<n.Elements.length:=by
   apply Decidable.byContradiction
   intro hc
   rw[List.drop_of_length_le (by omega)] at hl
   simp at hl
  have hdE:n.Elements.drop i=n.Elements[i]::n.Elements.drop (i+1):=List.drop_eq_getElem_cons hlt
  have hdS:st.drop i=st[i]'(by omega)::st.drop (i+1):=List.drop_eq_getElem_cons (by omega)
  rw[hdE,hdS,List.zip_cons_cons,List.cons.injEq,Prod.mk.injEq] at hl
  obtain⟨⟨hx,hd⟩,hl⟩:=hl
  have hg:n.Elements[i]? = some x:=by rw[hx];exact List.getElem?_eq_getElem hlt
  have hgd:st[i]? = some d:=by rw[hd];exact List.getElem?_eq_getElem _
  rw[Q2l] at h
  by_cases hm:(totS (insE o (ws.drop (wcn n i)) x)).Mass>widI x d
  ·rw[if_pos hm] at h;cases h
  ·rw[if_neg hm] at h
   have hK:=Q82 hv hf hI hg
   have hI2:=Q81 hv hf hI hg hK
   have hw:ws.drop (wcn n (i+1))=if x.Kind=1 then(ws.drop (wcn n i)).drop 1 else ws.drop (wcn n i):=by
    rw[Qpp hg]
    split
    ·rw[List.drop_drop]
    ·rfl
   rw[←hw] at h
   refine Q8k hv hf hst l (i+1) _ _ _ _ r hl hlt hI2 ?_ (by have:=hK.t0;omega) h
   rw[Qm1 hgd,hss,List.zipWith_append (by rw[List.length_take,hI.ll];omega)]
   rfl
theorem Qrv {n:GNet}(hv:NetV n) {ws:List Qaa}(hf:FedV n ws) {st:List Int}(hst:StV n st) {r:Qxu}(h:Qrw n st ws=.inr r):Zs4 n st ws r:=
 Q8k hv hf hst _ 0 [] [] [] 0 r (by simp) (Nat.zero_le _) (Q3l n ws) (by simp) (Int.le_refl _) h
theorem Zu5 {N:Nat}{n:GNet}(hs:Qjy n) (hN:1001≤N) {st:List Int}{ws:List Qaa}(hl:ws.length≤1000) (hl2:st.length≤1000):Qpu N n st ws=some (doA n st ws):=by
 unfold Qpu doA
 rw[Q8o hs hN hl hl2,Option.bind_some]
 by_cases hr:Qln n st ws=0
 ·obtain⟨hv,hst,hf,_⟩:=Qwg hr
  rw[if_pos hr,hr,show((0:Int) != 0)=false from rfl,cond_false,Zsr hs hN hv hf hst]
  cases ht:Qrw n st ws with
  |inl a=>
   simp only[Quo,Option.bind_some,Sum.elim_inl,decide_eq_true (show(a:Int)≥0 by omega),cond_true]
   rfl
  |inr r=>
   obtain⟨⟨h1,h2,_⟩,h3,_⟩:=Qrv hv hf hst ht
   have hsl:=Qv7 hst
   have h4:r.2.2.1.length=n.Elements.length:=by rw[h3,List.length_zipWith];omega
   simp only[Quo,Option.bind_some,Sum.elim_inr,show decide ((-1:Int)≥0)=false from rfl,cond_false,chk,Int.toNat_natCast]
   rw[show decide (n.Elements.length≤r.1.length)=true by simp;omega,show decide (n.Elements.length≤r.2.1.length)=true by simp;omega,show decide (st.length≤r.2.2.1.length)=true by simp;omega,List.take_of_length_le (by omega),List.take_of_length_le (by omega),List.take_of_length_le (by omega)]
   rfl
 ·rw[if_neg hr,show(Qln n st ws != 0)=true by simpa using hr,cond_true]
  rfl
end
section
open Go.RowKit
section
variable {P : Program} {o : Oper}
end
end
section
set_option maxRecDepth 100000
set_option maxHeartbeats 4000000
open Go.RowKit
def Qf5 (N:Nat) (p0:(List Qaa)) (k5:Int×Int×Int×Int→Option Qaa):Nat→Int→Int→Int→Int→Int→Option Qaa
  |0,_,_,_,_,_=>none
  |n16+1,y6,y7,y8,y9,y10=>
    bif (decide (y6<(p0.length:Int))) then
     (getI p0 y6).bind fun x18=>
     Qf5 N p0 k5 n16 (w64 (y6+1)) (w64 (y7+x18.Mass)) (w64 (y8+x18.Heat)) (w64 (y9+x18.Silica)) (w64 (y10+x18.Gas))
    else
     k5 (y7,y8,y9,y10)
def Qnp (N:Nat) (p0:(List Qaa)):Option Qaa:=
  Qbn (fun ⟨y1,y2,y3,y4⟩=>
    some (⟨y1,y2,y3,y4⟩:Qaa)) fun k5:Int×Int×Int×Int→Option Qaa=>
  Qf5 N p0 k5 N 0 0 0 0 0
def Qt2:Slot:=.own 4 [[(I (0)),(I (0)),(I (0)),(I (0))]]
def Qrr (p0:(List Qaa)):AV:=.dat 4 ((p0:List Qaa).map Qae)
theorem Q0d (N:Nat) (p0:(List Qaa)) (r:Qaa) (h:Qnp N p0=some r):Spec prog 38 [(.dat 4 (p0.map Qae))] [] (.agg (Qae r)) []:=by
  refine Qal func38 rfl 0 (nle rfl) (fun X φ0 w0 hφ0 hd0=>?_)
  unfold Qnp at h
  refine wxz<|wxz ?_
  obtain⟨k5,hk_k5,h⟩:=jko h
  refine wjn (τ:=Int×Int×Int×Int) (fun t=>k5 t=some r) (fun ⟨y1,y2,y3,y4⟩=>⟨mk 45 [(2,.ref 0 4 0 0),(3,.ref 1 4 0 0)],[Qt2,(.own 4 [[I y1,I y2,I y3,I y4]])]⟩) (fun t h=>?_) ?_
  ·subst hk_k5
   obtain⟨y1,y2,y3,y4⟩:=t
   refine wxz<|Qah ?_
   obtain rfl:=osi h
   exact fend ⟨[(.agg [I y1,I y2,I y3,I y4])],⟨Qb2 (n:=0) (m:=4) (j:=0) (i:=0) (xs:=[[I y1,I y2,I y3,I y4]]) (by kernel_rfl) (by kernel_rfl) ti89 (by decide) rfl (nle rfl) rfl,tv⟩,rfl⟩ (NLt.agg _ (nlcc (nlcc nl0)))
  ·skip
   refine wxz<|Qao ?_
   refine wmr (mto (n:=45) (l':=[(0,(Qrr p0)),(2,.ref 0 4 0 0),(3,.ref 1 4 0 0),(4,I 0)]) (own':=[Qt2,Qt2]) [(0,(Qrr p0)),(2,.ref 0 4 0 0),(3,.ref 1 4 0 0),(4,I 0)] [0,1] [Qt2,Qt2] hφ0 (pc (rnd Qak) (prr (prr (pw pn)))) (qb (lcc (lcc ln)) (qb (lcc (lcc ln)) qn))) ?_
   refine Qb3 (τ:=Int×Int×Int×Int×Int) (fun n t=>Qf5 N p0 k5 n t.1 t.2.1 t.2.2.1 t.2.2.2.1 t.2.2.2.2=some r) (fun ⟨y6,y7,y8,y9,y10⟩=>⟨mk 45 [(0,(Qrr p0)),(2,.ref 0 4 0 0),(3,.ref 1 4 0 0),(4,I y6)],[Qt2,(.own 4 [[I y7,I y8,I y9,I y10]])]⟩) (fun t h=>by rw[Qf5] at h;cases h) (fun n16 ih t h=>?_) N (0,0,0,0,0) h
   obtain⟨y6,y7,y8,y9,y10⟩:=t
   rw[Qf5] at h
   skip
   refine wsq<|wx tbk [(2,rp [(.tmp 6,(Qrr p0))] (I ((p0.length:Int))))] ⟨alm (c:=Qae) (l:=p0) (aln rfl underlying28 rfl),tv⟩ ?_
   refine bfe h (fun hc17 h=>?_) fun hc17 h=>?_
   ·refine wft hc17<|Qap<|thn<|wsq<|Qao ?_
    obtain⟨x18,hg19,h⟩:=bno h
    obtain⟨hi20,hj21⟩:=gsm hg19
    refine wy1 tbk [(4,rp [(.tmp 13,(Qrr p0)),(.tmp 14,I y6)] (.dptr (Qae (x18)) 0)),(12,rp [(.tmp 21,(Qrr p0)),(.tmp 22,I y6)] (.dptr (Qae (x18)) 0)),(20,rp [(.tmp 29,(Qrr p0)),(.tmp 30,I y6)] (.dptr (Qae (x18)) 0)),(28,rp [(.tmp 37,(Qrr p0)),(.tmp 38,I y6)] (.dptr (Qae (x18)) 0)),(32,rp [(.tmp 18,(I (w64 (y7+x18.Mass)))),(.tmp 26,(I (w64 (y8+x18.Heat)))),(.tmp 34,(I (w64 (y9+x18.Silica)))),(.tmp 42,(I (w64 (y10+x18.Gas))))] (.agg [(I (w64 (y7+x18.Mass))),(I (w64 (y8+x18.Heat))),(I (w64 (y9+x18.Silica))),(I (w64 (y10+x18.Gas)))]))] ⟨aid rfl underlying28 ti89 rfl rfl hi20 (mgt Qae hj21) rfl,aid rfl underlying28 ti89 rfl rfl hi20 (mgt Qae hj21) rfl,aid rfl underlying28 ti89 rfl rfl hi20 (mgt Qae hj21) rfl,aid rfl underlying28 ti89 rfl rfl hi20 (mgt Qae hj21) rfl,Qa8 (vs:=[(I (w64 (y7+x18.Mass))),(I (w64 (y8+x18.Heat))),(I (w64 (y9+x18.Silica))),(I (w64 (y10+x18.Gas)))]) rfl ts89 tz89 rfl (by rfl) rfl,tv⟩<|bln<|thn<|wxz1<|thn ?_
    exact arm (mto (n:=45) [(0,(Qrr p0)),(2,.ref 0 4 0 0),(3,.ref 1 4 0 0),(4,(I (w64 (y6+1))))] [0,1] [Qt2,(.own 4 [[(I (w64 (y7+x18.Mass))),(I (w64 (y8+x18.Heat))),(I (w64 (y9+x18.Silica))),(I (w64 (y10+x18.Gas)))]])] hφ0 (pc (rnd Qak) (prr (prr (pw pn)))) (qb (lcc (lcc ln)) (qb (lcc (lcc ln)) qn))) (ih (w64 (y6+1),w64 (y7+x18.Mass),w64 (y8+x18.Heat),w64 (y9+x18.Silica),w64 (y10+x18.Gas)) h)
   ·exact wfn hc17<|Qbl<|Qax<|Qax<|Qbk rfl<|thn<|⟨(y7,y8,y9,y10),h,(mto (n:=45) [(2,.ref 0 4 0 0),(3,.ref 1 4 0 0)] [0,1] [Qt2,(.own 4 [[I y7,I y8,I y9,I y10]])] hφ0 (prr (prr pn)) (qb (lcc (lcc ln)) (qb (lcc (lcc ln)) qn)))⟩
def Qee (N:Nat) (p0:(List Qaa)) (k1:Unit→Option Bool):Nat→Int→Option Bool
  |0,_=>none
  |n4+1,y2=>
    bif (decide (y2<(p0.length:Int))) then
     (getI p0 y2).bind fun x6=>
     (Qg3 N x6).bind fun x11=>
     bif (!x11) then
      some false
     else
      Qee N p0 k1 n4 (w64 (y2+1))
    else
     k1 ()
def Qjj (N:Nat) (p0:(List Qaa)):Option Bool:=
  Qbn (fun _=>
    some true) fun k1:Unit→Option Bool=>
  Qee N p0 k1 N 0
def Qyq (p0:(List Qaa)):AV:=.dat 4 ((p0:List Qaa).map Qae)
def Zuc (x6:Qaa):AV:=.agg [(I (x6.Mass)),(I (x6.Heat)),(I (x6.Silica)),(I (x6.Gas))]
theorem Qtb (N:Nat) (p0:(List Qaa)) (r:Bool) (h:Qjj N p0=some r):Spec prog 98 [(.dat 4 (p0.map Qae))] [] (B r) []:=by
  refine Qal func98 rfl 0 (nle rfl) (fun X φ0 w0 hφ0 hd0=>?_)
  unfold Qjj at h
  refine wxz ?_
  obtain⟨k1,hk_k1,h⟩:=jko h
  refine wjn (τ:=Unit) (fun t=>k1 t=some r) (fun _=>⟨mk 16 [],[]⟩) (fun t h=>?_) ?_
  ·subst hk_k1
   exact wxz<|Qah<|frb h
  ·skip
   refine wxz<|Qao ?_
   refine wmr (mto (n:=16) (l':=[(0,(Qyq p0)),(3,I 0)]) (own':=[]) [(0,(Qyq p0)),(3,I 0)] [] [] hφ0 (pc (rnd Qak) (pw pn)) qn) ?_
   refine Qb3 (τ:=Int) (fun n t=>Qee N p0 k1 n t=some r) (fun y2=>⟨mk 16 [(0,(Qyq p0)),(3,I y2)],[]⟩) (fun t h=>by rw[Qee] at h;cases h) (fun n4 ih y2 h=>?_) N (0) h
   rw[Qee] at h
   skip
   refine wsq<|wx tbk [(2,rp [(.tmp 5,(Qyq p0))] (I ((p0.length:Int))))] ⟨alm (c:=Qae) (l:=p0) (aln rfl underlying28 rfl),tv⟩ ?_
   refine bfe h (fun hc5 h=>?_) fun hc5 h=>?_
   ·refine wft hc5<|Qap<|thn<|wsq<|Qao ?_
    obtain⟨x6,hg7,h⟩:=bno h
    obtain⟨hi8,hj9⟩:=gsm hg7
    obtain⟨x11,hf10,h⟩:=bno h
    refine wx tbk [(2,rp [(.tmp 10,(Qyq p0)),(.tmp 11,I y2)] (.dptr (Qae (x6)) 0)),(4,rp [fu 121,(.tmp 13,(Zuc x6))] (B x11))] ⟨aid rfl underlying28 ti89 rfl rfl hi8 (mgt Qae hj9) rfl,apv Zls (Qpe N x6 _ hf10) (nlc (NLt.agg _ (nlcc (nlcc nl0))) nl0) nll,tv⟩ ?_
    refine bfe h (fun hc12 h=>?_) fun hc12 h=>?_
    ·exact wft hc12<|wxz<|Qah<|Qaq<|Qac<|Qac<|Qaq<|Qac<|frb h
    ·exact wfn hc12<|Qap<|bln<|thn<|wxz1<|thn<|arm (mto (n:=16) [(0,(Qyq p0)),(3,(I (w64 (y2+1))))] [] [] hφ0 (pc (rnd Qak) (pw pn)) qn) (ih (w64 (y2+1)) h)
   ·exact wfn hc5<|Qbl<|Qax<|Qax<|Qbk rfl<|thn<|⟨(),h,(mto (n:=16) [] [] [] hφ0 pn qn)⟩
def Qei (N:Nat) (p0:GNet) (p1:Int) (k2:Int→Option Int):Nat→Int→Int→Option Int
  |0,_,_=>none
  |n7+1,y3,y4=>
    bif (decide (y4<(p0.Elements.length:Int))) then
     (getI p0.Elements y4).bind fun x9=>
     bif (x9.Kind==p1) then
      Qei N p0 p1 k2 n7 (w64 (y3+1)) (w64 (y4+1))
     else
      Qei N p0 p1 k2 n7 y3 (w64 (y4+1))
    else
     k2 (y3)
def Qll (N:Nat) (p0:GNet) (p1:Int):Option Int:=
  Qbn (fun y1=>
    some y1) fun k2:Int→Option Int=>
  Qei N p0 p1 k2 N 0 0
def Zey (p0:GNet):AV:=.dat 7 ((p0.Elements:List Qad).map Qai)
def Q2f (p0:GNet):Slot:=.own 2 [[(.dat 5 ((p0.Table:List GRow).map Qa7)),(Zey p0)]]
theorem Qwe (N:Nat) (p0:GNet) (p1:Int) (r:Int) (h:Qll N p0 p1=some r):Spec prog 29 [(.agg (Qhv p0)),(K .u8 p1)] [] (I r) []:=by
  refine Qal func29 rfl 0 (nle rfl) (fun X φ0 w0 hφ0 hd0=>?_)
  unfold Qll at h
  refine wxz<|wxz ?_
  obtain⟨k2,hk_k2,h⟩:=jko h
  refine wjn (τ:=Int) (fun t=>k2 t=some r) (fun y1=>⟨mk 25 [(5,I y1)],[]⟩) (fun y1 h=>?_) ?_
  ·subst hk_k2
   refine wxz<|Qah ?_
   obtain rfl:=osi h
   exact fend ⟨[I y1],⟨rot,tv⟩,rfl⟩ nll
  ·skip
   refine wxz<|Qao ?_
   refine wmr (mto (n:=25) (l':=[(1,(K .u8 (p1))),(2,.ref 0 2 0 0),(5,I 0),(6,I 0)]) (own':=[(Q2f p0)]) [(1,(K .u8 (p1))),(2,.ref 0 2 0 0),(5,I 0),(6,I 0)] [0] [(Q2f p0)] hφ0 (pw (prr (pw (pw pn)))) (qb (lc (rnd Qan) (lc (rnd Qab) ln)) qn)) ?_
   refine Qb3 (τ:=Int×Int) (fun n t=>Qei N p0 p1 k2 n t.1 t.2=some r) (fun ⟨y3,y4⟩=>⟨mk 25 [(1,(K .u8 (p1))),(2,.ref 0 2 0 0),(5,I y3),(6,I y4)],[(Q2f p0)]⟩) (fun t h=>by rw[Qei] at h;cases h) (fun n7 ih t h=>?_) N (0,0) h
   obtain⟨y3,y4⟩:=t
   rw[Qei] at h
   skip
   refine wsq<|wx tbk [(3,rp [(.tmp 9,(Zey p0))] (I ((p0.Elements.length:Int))))] ⟨alm (c:=Qai) (l:=p0.Elements) (aln rfl underlying24 rfl),tv⟩ ?_
   refine bfe h (fun hc8 h=>?_) fun hc8 h=>?_
   ·refine wft hc8<|Qap<|thn<|wsq<|Qao ?_
    obtain⟨x9,hg10,h⟩:=bno h
    obtain⟨hi11,hj12⟩:=gsm hg10
    refine wx tbk [(3,rp [(.tmp 15,(Zey p0)),(.tmp 16,I y4)] (.dptr (Qai (x9)) 0))] ⟨aid rfl underlying24 ti59 rfl rfl hi11 (mgt Qai hj12) rfl,tv⟩ ?_
    refine bfe h (fun hc13 h=>?_) fun hc13 h=>?_
    ·exact wft hc13<|wxz1<|bln<|thn<|wxz1<|thn<|arm (mto (n:=25) [(1,(K .u8 (p1))),(2,.ref 0 2 0 0),(5,(I (w64 (y3+1)))),(6,(I (w64 (y4+1))))] [0] [(Q2f p0)] hφ0 (pw (prr (pw (pw pn)))) (qb (lc (rnd Qan) (lc (rnd Qab) ln)) qn)) (ih (w64 (y3+1),w64 (y4+1)) h)
    ·exact wfn hc13<|Qap<|bln<|thn<|wxz1<|thn<|arm (mto (n:=25) [(1,(K .u8 (p1))),(2,.ref 0 2 0 0),(5,I y3),(6,(I (w64 (y4+1))))] [0] [(Q2f p0)] hφ0 (pw (prr (pw (pw pn)))) (qb (lc (rnd Qan) (lc (rnd Qab) ln)) qn)) (ih (y3,w64 (y4+1)) h)
   ·exact wfn hc8<|Qbl<|Qax<|Qax<|Qbk rfl<|thn<|⟨(y3),h,(mto (n:=25) [(5,I y3)] [] [] hφ0 (pw pn) qn)⟩
def Qie (N:Nat) (p0:GNet) (p1:(List Qaa)):Option Int:=
  Qbn (fun _=>
    (Qnp N p1).bind fun x3=>
    bif (decide (x3.Mass>1000000)) then
     some 3
    else
     bif (decide (x3.Gas>1000000000)) then
      some 3
     else
      some 0) fun k1:Unit→Option Int=>
  (Qll N p0 1).bind fun x7=>
  bif ((p1.length:Int) != x7) then
   some 1
  else
   (Qjj N p1).bind fun x10=>
   bif (!x10) then
    some 1
   else
    k1 ()
def Q2e (p1:(List Qaa)):AV:=.dat 4 ((p1:List Qaa).map Qae)
def Zub (p0:GNet):AV:=.dat 5 ((p0.Table:List GRow).map Qa7)
def Zua (p0:GNet):AV:=.dat 7 ((p0.Elements:List Qad).map Qai)
def Zex (p1:(List Qaa)) (p0:GNet) (x7:Int):List (Nat×Rec):=[(1,rp [((.tmp 6),(Q2e p1))] (I ((p1.length:Int)))),(3,rp [fu 29,((.tmp 8),(.agg [(Zub p0),(Zua p0)])),((.const (.int .u8 1)),(K .u8 (1)))] (I (x7)))]
theorem Qq2 (N:Nat) (p0:GNet) (p1:(List Qaa)) (r:Int) (h:Qie N p0 p1=some r):Spec prog 61 [(.agg (Qhv p0)),(.dat 4 (p1.map Qae))] [] (I r) []:=by
  refine Qal func61 rfl 0 (nle rfl) (fun X φ0 w0 hφ0 hd0=>?_)
  unfold Qie at h
  refine wxz ?_
  obtain⟨k1,hk_k1,h⟩:=jko h
  refine wjn (τ:=Unit) (fun t=>k1 t=some r) (fun _=>⟨mk 26 [(1,(Q2e p1))],[]⟩) (fun t h=>?_) ?_
  ·subst hk_k1
   obtain⟨x3,hf2,h⟩:=bno h
   refine wx tbk [(1,rp [fu 38,(.tmp 16,(Q2e p1))] (.agg [I x3.Mass,I x3.Heat,I x3.Silica,I x3.Gas]))] ⟨apv Zsi (Q0d N p1 _ hf2) (nlc (nld Qak _) nl0) (NLt.agg _ (nlcc (nlcc nl0))),tv⟩<|wsq ?_
   refine bfe h (fun hb4 h=>?_) fun hb4 h=>?_
   ·refine wx tbk [(3,rp [(.tmp 20,(B ((decide (x3.Mass>1000000)))))] (B true))] ⟨asb hb4 (amv rfl),tv⟩<|wtr<|wxz<|Qah<|Qac ?_
    obtain rfl:=osi h
    exact fend ⟨[I 3],⟨rot,tv⟩,rfl⟩ nll
   ·refine wx tbk [(3,rp [(.tmp 20,(B ((decide (x3.Mass>1000000)))))] (B false))] ⟨asb hb4 (amv rfl),tv⟩ ?_
    refine bfe h (fun hc5 h=>?_) fun hc5 h=>?_
    ·refine wft hc5<|wxz<|Qah<|Qac ?_
     obtain rfl:=osi h
     exact fend ⟨[I 3],⟨rot,tv⟩,rfl⟩ nll
    ·refine wfn hc5<|Qap<|thn<|wxz<|Qah ?_
     obtain rfl:=osi h
     exact fend ⟨[I 0],⟨rot,tv⟩,rfl⟩ nll
  ·skip
   obtain⟨x7,hf6,h⟩:=bno h
   refine hpre (A:=(Zex p1 p0 x7)) ⟨alm (c:=Qae) (l:=p1) (aln rfl underlying28 rfl),apv Zsk (Qwe N p0 1 _ hf6) (nlc (NLt.agg _ (nlc (nld Qan _) (nlc (nld Qab _) nl0))) (nlc nll nl0)) nll,tv⟩ fun q1_=>?_
   refine bfe h (fun hb8 h=>?_) fun hb8 h=>?_
   ·refine wx tbk (hcat (Zex p1 p0 x7) [(5,rp [(.tmp 10,(B (((p1.length:Int) != x7))))] (B true))]) (hap q1_ ⟨asb hb8 (amv rfl),tv⟩)<|wtr<|wxz<|Qah<|Qac ?_
    obtain rfl:=osi h
    exact fend ⟨[I 1],⟨rot,tv⟩,rfl⟩ nll
   ·obtain⟨x10,hf9,h⟩:=bno h
    refine wx tbk (hcat (Zex p1 p0 x7) [(5,rp [(.tmp 10,(B (((p1.length:Int) != x7))))] (B false)),(7,rp [(.tmp 11,B false),fu 98,(.tmp 12,(Q2e p1))] (B x10))]) (hap q1_ ⟨asb hb8 (amv rfl),ag_ (apv Zrv (Qtb N p1 _ hf9) (nlc (nld Qak _) nl0) nll),tv⟩) ?_
    refine bfe h (fun hc11 h=>?_) fun hc11 h=>?_
    ·refine wft hc11<|wxz<|Qah<|Qac ?_
     obtain rfl:=osi h
     exact fend ⟨[I 1],⟨rot,tv⟩,rfl⟩ nll
    ·exact wfn hc11<|Qap<|thn<|⟨(),h,(mto (n:=26) [(1,(Q2e p1))] [] [] hφ0 (pc (rnd Qak) pn) qn)⟩
def Qfq (N:Nat) (p0:(List Int)) (p1:(List Int)) (k2:Unit→Option Bool):Nat→Int→Option Bool
  |0,_=>none
  |n5+1,y3=>
    bif (decide (y3<(p0.length:Int))) then
     (getI p0 y3).bind fun x7=>
     (getI p1 y3).bind fun x11=>
     bif (x7 != x11) then
      some false
     else
      Qfq N p0 p1 k2 n5 (w64 (y3+1))
    else
     k2 ()
def Qkw (N:Nat) (p0:(List Int)) (p1:(List Int)):Option Bool:=
  bif ((p0.length:Int) != (p1.length:Int)) then
   some false
  else
   Qbn (fun _=>
     some true) fun k2:Unit→Option Bool=>
   Qfq N p0 p1 k2 N 0
def Qvu (p0:(List Int)):AV:=.dat 1 ((p0:List Int).map Qav)
def Qyp (p1:(List Int)):AV:=.dat 1 ((p1:List Int).map Qav)
theorem Qx2 (N:Nat) (p0:(List Int)) (p1:(List Int)) (r:Bool) (h:Qkw N p0 p1=some r):Spec prog 49 [(.dat 1 (p0.map Qav)),(.dat 1 (p1.map Qav))] [] (B r) []:=by
  refine Qal func49 rfl 0 (nle rfl) (fun X φ0 w0 hφ0 hd0=>?_)
  unfold Qkw at h
  refine wxz<|wsq ?_
  refine wx tbk [(1,rp [(.tmp 6,(Qvu p0))] (I ((p0.length:Int)))),(3,rp [(.tmp 8,(Qyp p1))] (I ((p1.length:Int))))] ⟨alm (c:=Qav) (l:=p0) (aln rfl underlying27 rfl),alm (c:=Qav) (l:=p1) (aln rfl underlying27 rfl),tv⟩ ?_
  refine bfe h (fun hc1 h=>?_) fun hc1 h=>?_
  ·exact wft hc1<|wxz<|Qah<|Qac<|frb h
  ·refine wfn hc1<|Qap<|thn ?_
   obtain⟨k2,hk_k2,h⟩:=jko h
   refine wjn (τ:=Unit) (fun t=>k2 t=some r) (fun _=>⟨mk 26 [],[]⟩) (fun t h=>?_) ?_
   ·subst hk_k2
    exact wxz<|Qah<|frb h
   ·skip
    refine wxz<|Qao ?_
    refine wmr (mto (n:=26) (l':=[(0,(Qvu p0)),(1,(Qyp p1)),(5,I 0)]) (own':=[]) [(0,(Qvu p0)),(1,(Qyp p1)),(5,I 0)] [] [] hφ0 (pc (rnd Qaj) (pc (rnd Qaj) (pw pn))) qn) ?_
    refine Qb3 (τ:=Int) (fun n t=>Qfq N p0 p1 k2 n t=some r) (fun y3=>⟨mk 26 [(0,(Qvu p0)),(1,(Qyp p1)),(5,I y3)],[]⟩) (fun t h=>by rw[Qfq] at h;cases h) (fun n5 ih y3 h=>?_) N (0) h
    rw[Qfq] at h
    skip
    refine wsq<|wx tbk [(2,rp [(.tmp 12,(Qvu p0))] (I ((p0.length:Int))))] ⟨alm (c:=Qav) (l:=p0) (aln rfl underlying27 rfl),tv⟩ ?_
    refine bfe h (fun hc6 h=>?_) fun hc6 h=>?_
    ·refine wft hc6<|Qap<|thn<|wsq<|Qao ?_
     obtain⟨x7,hg8,h⟩:=bno h
     obtain⟨hi9,hj10⟩:=gsm hg8
     obtain⟨x11,hg12,h⟩:=bno h
     obtain⟨hi13,hj14⟩:=gsm hg12
     refine wxd tbk [(2,rp [(.tmp 17,(Qvu p0)),(.tmp 18,I y3)] (.dptr (Qav (x7)) 0)),(6,rp [(.tmp 21,(Qyp p1)),(.tmp 22,I y3)] (.dptr (Qav (x11)) 0))] ⟨aid rfl underlying27 ti3 rfl rfl hi9 (mgt Qav hj10) rfl,aid rfl underlying27 ti3 rfl rfl hi13 (mgt Qav hj14) rfl,tv⟩ ?_
     refine bfe h (fun hc15 h=>?_) fun hc15 h=>?_
     ·exact wft hc15<|wxz<|Qah<|Qaq<|Qac<|Qac<|Qaq<|Qac<|frb h
     ·exact wfn hc15<|Qap<|bln<|thn<|wxz1<|thn<|arm (mto (n:=26) [(0,(Qvu p0)),(1,(Qyp p1)),(5,(I (w64 (y3+1))))] [] [] hφ0 (pc (rnd Qaj) (pc (rnd Qaj) (pw pn))) qn) (ih (w64 (y3+1)) h)
    ·exact wfn hc6<|Qbl<|Qax<|Qax<|Qbk rfl<|thn<|⟨(),h,(mto (n:=26) [] [] [] hφ0 pn qn)⟩
def Qfj (N:Nat) (p0:GNet) (p2:(List Qaa)) (p3:Int) (k8:Int→Option (Int×Int×Int)):Nat→(List Int)→Int→Option (Int×Int×Int)
  |0,_,_=>none
  |n13+1,y9,y10=>
    bif (decide (y10<p3)) then
     (Qfs N p0 y9 p2).bind (
      Sum.elim (fun x17=>
        bif (decide (x17≥0)) then
         some (y10,x17,0)
        else
         none)
      (fun x19=>
        bif (decide (x19.1≥0)) then
         some (y10,x19.1,0)
        else
         chk (decide (y9.length≤x19.2.2.2.2.length))<|
         Qfj N p0 p2 p3 k8 n13 (x19.2.2.2.2.take y9.length) (w64 (y10+1))))
    else
     k8 (y10)
def Qnv (N:Nat) (p0:GNet) (p1:(List Int)) (p2:(List Qaa)) (p3:Int):Option (Int×Int×Int):=
  (Qkt N p0 p1 p2).bind fun x2=>
  bif (x2 != 0) then
   some (0,0,x2)
  else
   (Qc7 N p3 1 1000).bind fun x5=>
   bif (!x5) then
    some (0,0,2)
   else
    Qbn (fun y7=>
      some (y7,(-1),0)) fun k8:Int→Option (Int×Int×Int)=>
    Qfj N p0 p2 p3 k8 N p1 0
def Zew (p0:GNet):AV:=.dat 5 ((p0.Table:List GRow).map Qa7)
def Zev (p0:GNet):AV:=.dat 7 ((p0.Elements:List Qad).map Qai)
def Q2c (p0:GNet):AV:=.agg [(Zew p0),(Zev p0)]
def Zeu (p1:(List Int)):AV:=.dat 1 ((p1:List Int).map Qav)
def Qoq (p2:(List Qaa)):AV:=.dat 4 ((p2:List Qaa).map Qae)
def Q2d (p0:GNet):Slot:=.own 2 [[(Zew p0),(Zev p0)]]
def Qvt (y9:(List Int)):AV:=.dat 1 ((y9:List Int).map Qav)
def Znx:Slot:=.own 1 [[(.lit (.pointer none))]]
def Zet:Slot:=.own 1 [[(.ref 3 7 (0) 0)]]
def Qzz (p0:GNet) (y9:(List Int)) (p2:(List Qaa)) (x19:(Int×Int×(List (List Qaa))×(List Qa1)×(List Int))):Slot:=.own 7 [[(Zew p0),(Zev p0),(.own 4 1 (0) ((p0.Elements.length:Int).toNat)),(.own 5 4 (0) ((p0.Elements.length:Int).toNat)),(.own 6 1 (0) (y9.length)),(Qoq p2),(I (x19.2.1))]]
theorem Q0f (N:Nat) (p0:GNet) (p1:(List Int)) (p2:(List Qaa)) (p3:Int) (r:(Int×Int×Int)) (h:Qnv N p0 p1 p2 p3=some r):Spec prog 24 [(.agg (Qhv p0)),(.dat 1 (p1.map Qav)),(.dat 4 (p2.map Qae)),(I p3)] [] (.tup [(I r.1),(I r.2.1),(I r.2.2)]) []:=by
  refine Qal func24 rfl 0 (nle rfl) (fun X φ0 w0 hφ0 hd0=>?_)
  unfold Qnv at h
  refine wxz<|wsq ?_
  obtain⟨x2,hf1,h⟩:=bno h
  refine wx tbk [(3,rp [fu 57,(.tmp 14,(Q2c p0)),(.tmp 15,(Zeu p1)),(.tmp 16,(Qoq p2))] (I x2))] ⟨apv Zhl (Qqk N p0 p1 p2 _ hf1) (nlc (NLt.agg _ (nlc (nld Qan _) (nlc (nld Qab _) nl0))) (nlc (nld Qaj _) (nlc (nld Qak _) nl0))) nll,tv⟩<|wxz ?_
  refine bfe h (fun hc3 h=>?_) fun hc3 h=>?_
  ·refine wft hc3<|wxz<|Qah<|Qac ?_
   obtain rfl:=osi h
   exact fend ⟨[I 0,I 0,I x2],⟨rot,rot,rot,tv⟩,rfl⟩ (NLt.tup _ (nlcc (nlc nll nl0)))
  ·refine wfn hc3<|Qap<|thn<|wsq ?_
   obtain⟨x5,hf4,h⟩:=bno h
   refine wx tbk [(1,rp [fu 65,(.tmp 21,I p3),ci 1,ci 1000] (B x5))] ⟨apv Ql1 (Qd2 N p3 1 1000 _ hf4) (nlcc (nlc nll nl0)) nll,tv⟩ ?_
   refine bfe h (fun hc6 h=>?_) fun hc6 h=>?_
   ·refine wft hc6<|wxz<|Qah<|Qac ?_
    obtain rfl:=osi h
    exact fend ⟨[I 0,I 0,I 2],⟨rot,rot,rot,tv⟩,rfl⟩ (NLt.tup _ (nlcc (nlc nll nl0)))
   ·refine wfn hc6<|Qap<|thn ?_
    obtain⟨k8,hk_k8,h⟩:=jko h
    refine wjn (τ:=Int) (fun t=>k8 t=some r) (fun y7=>⟨mk 46 [(8,I y7)],[]⟩) (fun y7 h=>?_) ?_
    ·subst hk_k8
     refine wxz<|Qah ?_
     obtain rfl:=osi h
     exact fend ⟨[I y7,(I ((-1))),I 0],⟨rot,rot,rot,tv⟩,rfl⟩ (NLt.tup _ (nlcc (nlc nll nl0)))
    ·skip
     refine wxz<|Qao ?_
     refine wmr (mto (n:=46) (l':=[(1,(Zeu p1)),(2,(Qoq p2)),(3,I p3),(4,.ref 0 2 0 0),(8,I 0)]) (own':=[(Q2d p0)]) [(1,(Zeu p1)),(2,(Qoq p2)),(3,I p3),(4,.ref 0 2 0 0),(8,I 0)] [0] [(Q2d p0)] hφ0 (pc (rnd Qaj) (pc (rnd Qak) (pw (prr (pw pn))))) (qb (lc (rnd Qan) (lc (rnd Qab) ln)) qn)) ?_
     refine Qb3 (τ:=(List Int)×Int) (fun n t=>Qfj N p0 p2 p3 k8 n t.1 t.2=some r) (fun ⟨y9,y10⟩=>⟨mk 46 [(1,(Qvt y9)),(2,(Qoq p2)),(3,I p3),(4,.ref 0 2 0 0),(8,I y10)],[(Q2d p0)]⟩) (fun t h=>by rw[Qfj] at h;cases h) (fun n13 ih t h=>?_) N (p1,0) h
     obtain⟨y9,y10⟩:=t
     rw[Qfj] at h
     skip
     refine wsq<|wxz ?_
     refine bfe h (fun hc14 h=>?_) fun hc14 h=>?_
     ·refine wft hc14<|Qap<|thn<|wsq<|Qao ?_
      obtain⟨x16,hf15,h⟩:=bno h
      rcases x16 with x17 |x19
      ·replace h:=Zjt h
       refine wx tbk [(3,⟨[fu 58,(.tmp 30,(Q2c p0)),(.tmp 31,(Qvt y9)),(.tmp 32,(Qoq p2))],[(1,.unused),(2,.unused)],(.tup [(.lit (.pointer none)),I x17]),[(1,Znx),(2,.own 1 [[I x17]])],false⟩)] ⟨Qau (first:=[]) (cap:=[]) (vs:=[(Q2c p0),(Qvt y9),(Qoq p2)]) (σr:=[]) (σr':=[Znx,(.own 1 [[I x17]])]) (res':=(.tup [(.lit (.pointer none)),I x17])) [1,2] rfl Qtp (Qkd N p0 y9 p2 _ hf15) rfl (Qbp (rnc (.plain _ (NLt.agg _ (nlc (nld Qan _) (nlc (nld Qab _) nl0)))) (rnc (pld Qaj) (rnc (pld Qak) rn0)))) Qat (slc (Qam (rnc (.plain _ nll) rn0)) (slc (Qam (rnc (.plain _ nll) rn0)) Qat)) (.plain _ (NLt.tup _ (nlcc nl0))) rfl rfl rfl,tv⟩<|wsq<|wxz ?_
       refine bfe h (fun hc18 h=>?_) fun hc18 h=>?_
       ·refine wft hc18<|wxz<|Qah<|Qac<|Qaq<|Qac<|Qac<|Qaq<|Qac ?_
        obtain rfl:=osi h
        exact fend ⟨[I y10,I x17,I 0],⟨rot,rot,rot,tv⟩,rfl⟩ (NLt.tup _ (nlcc (nlc nll nl0)))
       ·refine wfn hc18<|Qap<|thn ?_
        cases h
      ·replace h:=Zjs h
       refine wx tbk [(3,⟨[fu 58,(.tmp 30,(Q2c p0)),(.tmp 31,(Qvt y9)),(.tmp 32,(Qoq p2))],[(1,.unused),(2,.unused),(3,.unused),(4,.unused),(5,.unused),(6,.unused)],(.tup [.ref 3 7 0 0,I x19.1]),[(1,Zet),(2,.own 1 [[I x19.1]]),(3,(Qzz p0 y9 p2 x19)),(4,(.own 1 ((x19.2.2.1:List (List Qaa)).map Qaf))),(5,(.own 4 ((x19.2.2.2.1:List Qa1).map Qbf))),(6,(.own 1 ((x19.2.2.2.2:List Int).map Qav)))],false⟩)] ⟨Qau (first:=[]) (cap:=[]) (vs:=[(Q2c p0),(Qvt y9),(Qoq p2)]) (σr:=[]) (σr':=[Zet,(.own 1 [[I x19.1]]),(Qzz p0 y9 p2 x19),(.own 1 ((x19.2.2.1:List (List Qaa)).map Qaf)),(.own 4 ((x19.2.2.2.1:List Qa1).map Qbf)),(.own 1 ((x19.2.2.2.2:List Int).map Qav))]) (res':=(.tup [.ref 3 7 0 0,I x19.1])) [1,2,3,4,5,6] rfl Qtp (Qkc N p0 y9 p2 _ hf15) rfl (Qbp (rnc (.plain _ (NLt.agg _ (nlc (nld Qan _) (nlc (nld Qab _) nl0)))) (rnc (pld Qaj) (rnc (pld Qak) rn0)))) Qat (slc (Qam (rnc (Qby rfl) rn0)) (slc (Qam (rnc (.plain _ nll) rn0)) (slc (Qam (rnc (pld Qan) (rnc (pld Qab) (rnc (Qdp rfl) (rnc (Qdp rfl) (rnc (Qdp rfl) (rnc (pld Qak) (rnc (.plain _ nll) rn0)))))))) (slc (Qbi Qag) (slc (Qbi Qay) (slc (Qbi Qaj) Qat)))))) (Zfx (rnc (Qby rfl) (rnc (.plain _ nll) rn0))) rfl rfl rfl,tv⟩<|wsq<|wxz ?_
       refine bfe h (fun hc20 h=>?_) fun hc20 h=>?_
       ·refine wft hc20<|wxz<|Qah<|Qac<|Qaq<|Qac<|Qac<|Qaq<|Qac ?_
        obtain rfl:=osi h
        exact fend ⟨[I y10,I x19.1,I 0],⟨rot,rot,rot,tv⟩,rfl⟩ (NLt.tup _ (nlcc (nlc nll nl0)))
       ·refine wfn hc20<|Qap<|thn ?_
        refine wx1 tbk [(1,rb [(.tmp 40,.ref 3 7 0 0)] [(3,(Qzz p0 y9 p2 x19))] (.ref 3 7 0 0))] ⟨Qbq rfl,tv⟩<|bln<|thn<|wxz1<|thn ?_
        obtain⟨hz21,h⟩:=cko h
        exact arm (Mor.trans (Zgn (n:=46) (m:=1) (xs:=(x19.2.2.2.2:List Int).map Qav) (l':=[(1,(.dat 1 ((x19.2.2.2.2.take y9.length:List Int).map Qav))),(2,(Qoq p2)),(3,I p3),(4,.ref 0 2 0 0),(8,(I (w64 (y10+1))))]) (own':=[(Q2d p0),Zet,(.own 1 [[I x19.1]]),(Qzz p0 y9 p2 x19),(.own 1 ((x19.2.2.1:List (List Qaa)).map Qaf)),(.own 4 ((x19.2.2.2.1:List Qa1).map Qbf)),.dead]) 6 [(1,(.own 6 1 (0) (y9.length))),(2,(Qoq p2)),(3,I p3),(4,.ref 0 2 0 0),(8,(I (w64 (y10+1))))] (by kernel_rfl) (by kernel_rfl) (by kernel_rfl) ⟨rfl,(Qof hz21),rfl,.same _,rfl,.same _,rfl,.same _,rfl,.same _,tv⟩ (by kernel_rfl)) (mto (n:=46) [(1,(.dat 1 ((x19.2.2.2.2.take y9.length:List Int).map Qav))),(2,(Qoq p2)),(3,I p3),(4,.ref 0 2 0 0),(8,(I (w64 (y10+1))))] [0] [(Q2d p0)] hφ0 (pc (rnd Qaj) (pc (rnd Qak) (pw (prr (pw pn))))) (qb (lc (rnd Qan) (lc (rnd Qab) ln)) qn))) (ih (x19.2.2.2.2.take y9.length,w64 (y10+1)) h)
     ·exact wfn hc14<|Qbl<|Qax<|Qax<|Qbk rfl<|thn<|⟨(y10),h,(mto (n:=46) [(8,I y10)] [] [] hφ0 (pw pn) qn)⟩
end
section
open Go.RowKit
end
section
open Go.RowKit
theorem Zfl (N:Nat) (l:List Qaa) (k:Int×Int×Int×Int→Option Qaa) (hl:l.length≤1000000):∀(n i:Nat) (a b c d:Int),(l.drop i).length<n →
  Qf5 N l k n i (w64 a) (w64 b) (w64 c) (w64 d)=k (w64 (a+(totS (l.drop i)).Mass),w64 (b+(totS (l.drop i)).Heat),w64 (c+(totS (l.drop i)).Silica),w64 (d+(totS (l.drop i)).Gas)):=by
 intro n
 induction n with
 |zero=>intro i _ _ _ _ h;exact absurd h (Nat.not_lt_zero _)
 |succ n ih=>
  intro i a b c d h
  rw[Qf5]
  cases hd:l.drop i with
  |nil=>
   have:=Qb4 hd
   simp[show ¬((i:Int)<l.length) from by omega,totS]
  |cons x q=>
   obtain⟨hg,hd',hlt⟩:=Qbs hd
   simp only[show decide ((i:Int)<l.length)=true from by simpa using hlt,cond_true,Qb6 hg,Option.bind_some,Qo4]
   rw[Qbm (x:=(i:Int)+1) (by omega) (by omega),show(i:Int)+1=((i+1:Nat):Int) by omega,ih (i+1) _ _ _ _ (by rw[hd'];rw[hd] at h;simp at h;omega),hd']
   simp only[totS,List.map_cons,List.sum_cons,Int.add_assoc]
theorem Zq1 {N:Nat}{l:List Qaa}(hl:l.length≤1000) (hN:1001≤N):Qnp N l=some (totW l):=by
 unfold Qnp
 simp only[Qbn]
 have:=Zfl N l (fun x=>match x with |(y1,y2,y3,y4)=>some (⟨y1,y2,y3,y4⟩:Qaa)) (by omega) N 0 0 0 0 0 (by simp;omega)
 rw[Qz0,List.drop_zero] at this
 refine this.trans ?_
 simp[totW]
section
variable {N : Nat} {s : Qaa} {ws : List Int} (hs : StrV s) (h : WtsV ws) (hN : 1001 ≤ N)
include h in
include hs h in
include hs h in
include hs h hN in
include hs in
include hs h in
include hs h hN in
end
end
section
open Go.RowKit
theorem Zay (N:Nat) (s:List Int) (k:Unit→Option Bool) (hl:s.length≤1000):∀(m i:Nat),(s.drop i).length<m →
  Qdw N k s m i=bif (s.drop i).all (fun x=>btw x 0 1000000000000) then k () else some false:=by
 intro m
 induction m with
 |zero=>intro i h;exact absurd h (Nat.not_lt_zero _)
 |succ m ih=>
  intro i h
  rw[Qdw]
  cases hd:s.drop i with
  |nil=>
   have:=Qb4 hd
   simp[show ¬((i:Int)<s.length) from by omega]
  |cons x l=>
   obtain⟨hg,hd',hlt⟩:=Qbs hd
   simp only[show decide ((i:Int)<s.length)=true from by simpa using hlt,cond_true,Qb6 hg,Option.bind_some,Q57,List.all_cons]
   cases btw x 0 1000000000000 with
   |false=>rfl
   |true=>rw[Bool.not_true,cond_false,Qbm (x:=(i:Int)+1) (by omega) (by omega),show(i:Int)+1=((i+1:Nat):Int) by omega,ih (i+1) (by rw[hd'];rw[hd] at h;simp at h;omega),hd',Bool.true_and]
theorem Za3 {N:Nat}{n:GNet}{s:List Int}(hl:s.length≤1000) (hN:1001≤N):Qhn N n s=some (stB n s):=by
 unfold Qhn stB
 simp only[Qbn]
 have:=Zay N s (fun _=>some ((s.length:Int)==(n.Elements.length:Int))) hl N 0 (by simp;omega)
 rw[List.drop_zero] at this
 refine this.trans ?_
 have e:((s.length:Int)==(n.Elements.length:Int))=decide (s.length=n.Elements.length):=by
  by_cases h:s.length=n.Elements.length
  ·rw[h];simp
  ·rw[decide_eq_false h,beq_eq_false_iff_ne];omega
 rw[e]
 cases s.all fun x=>btw x 0 1000000000000<;>simp
theorem Zfn (N:Nat) (l:List Qaa) (k:Unit→Option Bool) (hl:l.length≤1000):∀(m i:Nat),(l.drop i).length<m →
  Qee N l k m i=bif (l.drop i).all strB then k () else some false:=by
 intro m
 induction m with
 |zero=>intro i h;exact absurd h (Nat.not_lt_zero _)
 |succ m ih=>
  intro i h
  rw[Qee]
  cases hd:l.drop i with
  |nil=>
   have:=Qb4 hd
   simp[show ¬((i:Int)<l.length) from by omega]
  |cons x q=>
   obtain⟨hg,hd',hlt⟩:=Qbs hd
   simp only[show decide ((i:Int)<l.length)=true from by simpa using hlt,cond_true,Qb6 hg,Option.bind_some,Zf1,List.all_cons]
   cases strB x with
   |false=>rfl
   |true=>rw[Bool.not_true,cond_false,Qbm (x:=(i:Int)+1) (by omega) (by omega),show(i:Int)+1=((i+1:Nat):Int) by omega,ih (i+1) (by rw[hd'];rw[hd] at h;simp at h;omega),hd',Bool.true_and]
theorem Zju {N:Nat}{l:List Qaa}(hl:l.length≤1000) (hN:1001≤N):Qjj N l=some (l.all strB):=by
 unfold Qjj
 simp only[Qbn]
 refine(Zfn N l _ hl N 0 (by simp;omega)).trans ?_
 rw[List.drop_zero]
 cases l.all strB<;>rfl
theorem Zbi (N:Nat) (n:GNet) (c:Int) (k:Int→Option Int) (hl:n.Elements.length≤1000):∀(m i:Nat) (a:Int),(n.Elements.drop i).length<m→0≤a→a≤i →
  Qei N n c k m a i=k (a+(((n.Elements.drop i).filter fun x=>decide (x.Kind=c)).length:Int)):=by
 intro m
 induction m with
 |zero=>intro i _ h;exact absurd h (Nat.not_lt_zero _)
 |succ m ih=>
  intro i a h a0 a1
  rw[Qei]
  cases hd:n.Elements.drop i with
  |nil=>
   have:=Qb4 hd
   simp[show ¬((i:Int)<n.Elements.length) from by omega]
  |cons x q=>
   obtain⟨hg,hd',hlt⟩:=Qbs hd
   simp only[show decide ((i:Int)<n.Elements.length)=true from by simpa using hlt,cond_true,Qb6 hg,Option.bind_some]
   rw[Qbm (x:=(i:Int)+1) (by omega) (by omega),show(i:Int)+1=((i+1:Nat):Int) by omega,List.filter_cons]
   by_cases hk:x.Kind=c
   ·rw[show(x.Kind==c)=true by simpa using hk,cond_true,Qbm (x:=a+1) (by omega) (by omega),ih (i+1) _ (by rw[hd'];rw[hd] at h;simp at h;omega) (by omega) (by omega),hd',if_pos (by simpa using hk),List.length_cons]
    congr 1
    omega
   ·rw[show(x.Kind==c)=false by simpa using hk,cond_false,ih (i+1) _ (by rw[hd'];rw[hd] at h;simp at h;omega) (by omega) (by omega),hd',if_neg (by simpa using hk)]
def cntK (n:GNet) (c:Int):Nat:=(n.Elements.filter fun x=>decide (x.Kind=c)).length
theorem Zma {N:Nat}{n:GNet}(c:Int) (hl:n.Elements.length≤1000) (hN:1001≤N):Qll N n c=some (cntK n c:Int):=by
 unfold Qll
 simp only[Qbn]
 refine(Zbi N n c _ hl N 0 0 (by simp;omega) (Int.le_refl _) (by simp)).trans ?_
 rw[List.drop_zero,Int.zero_add]
 rfl
theorem Zhy (n:GNet):cntK n 1=wcn n n.Elements.length:=by unfold cntK wcn;rw[List.take_length]
end
section
open Go.RowKit
theorem Qm5 {κ β:Type}{k:κ}{f:κ→Option β}{r:Option β}(h:∀k',k'=k→f k'=r):Qbn k f=r:=by
 rw[Qbn]
 exact h k rfl
section
variable {N : Nat} {n : GNet} (hs : Qjy n) (hN : 1001 ≤ N) (hv : NetV n) {ws : List Qaa} (hf : FedV n ws) {i : Nat} {o : List (List Qaa)} {ls : List Qa1} (hI : InvT n ws i o ls) {x : Qad} (hx : n.Elements[i]? = some x)
include hv hI hx in
end
section
variable {N : Nat} {n : GNet} (hs : Qjy n) (hN : 1001 ≤ N) (hv : NetV n) {ws : List Qaa} (hf : FedV n ws) {st : List Int} (hst : StV n st)
set_option maxHeartbeats 2000000 in
include hs hN hv hf hst in
include hs hN hv hf hst in
end
end
section
open Go.RowKit
theorem Q9c (i:Nat):∀(r:List Qaa) (j:Nat),Qra i j r=(List.range r.length).map fun k:Nat=>(((i:Int),((j+k:Nat):Int)),r.getD k zs)
 |[],_=>rfl
 |x::r,j=>by
  rw[Qra,Q9c i r (j+1),List.length_cons,List.range_succ_eq_map,List.map_cons,List.map_map]
  congr 1
  apply List.map_congr_left
  intro k _
  simp[show j+1+k=j+(k+1) by omega]
theorem Qy7 (O:List (List Qaa)):∀(els:List Qad) (o pre:List (List Qaa)),O=pre++o→els.length=o.length→(∀(k:Nat) y r,els[k]? = some y→o[k]? = some r→(r.length:Int)=outl y) →
  Qit pre.length o=(Qm2 pre.length els).map fun p=>(pq p,Qe3 O p)
 |[],[],_,_,_,_=>rfl
 |x::els,r::o,pre,hO,hl,hr=>by
  have h1:=hr 0 x r rfl rfl
  have ih:=Qy7 O els o (pre++[r]) (by rw[hO];simp) (by simpa using hl) fun k y q hy hq=>hr (k+1) y q (by simpa using hy) (by simpa using hq)
  rw[List.length_append,List.length_singleton] at ih
  rw[Qit,Qm2,List.map_append,ih,Q9c,List.map_map,show(outl x).toNat=r.length by omega]
  congr 1
  apply List.map_congr_left
  intro k hk
  have hk':=List.mem_range.1 hk
  have hg:O.getD pre.length []=r:=by rw[hO,List.getD_eq_getElem?_getD,List.getElem?_append_right (Nat.le_refl _),Nat.sub_self];rfl
  simp only[Function.comp,pq,Qe3,Int.toNat_natCast,hg,Nat.zero_add]
 |[],_::_,_,_,h,_=>by simp at h
 |_::_,[],_,_,h,_=>by simp at h
def Q5v (n:GNet) (o:List (List Qaa)):List Qaa:=(Qh9 n).map (Qe3 o)
section
variable {n : GNet} (hv : NetV n) {ws : List Qaa} {o : List (List Qaa)} {ls : List Qa1} (hI : InvT n ws n.Elements.length o ls)
include hI
theorem Q28:Qit 0 o=(Qm2 0 n.Elements).map fun p=>(pq p,Qe3 o p):=Qy7 o n.Elements o [] rfl hI.lo.symm hI.rows
theorem Zkb (f:Qaa→Int):Qhy f (Qjh n n.Elements.length) (Qit 0 o)=((Q5v n o).map f).sum:=by
 rw[Zaq,Q28 hI]
 unfold Qhy Q5v Qh9
 rw[List.filter_map,List.map_map,List.map_map]
 rfl
theorem Zgc {p:Qa6}(hp:p∈Qh9 n):0≤p.Element∧0≤p.Outlet∧∃r,o[p.Element.toNat]? = some r∧r[p.Outlet.toNat]? = some (Qe3 o p):=by
 have h1:(pq p,Qe3 o p)∈Qit 0 o:=by
  rw[Q28 hI]
  exact List.mem_map.2 ⟨p,(List.mem_filter.1 hp).1,rfl⟩
 obtain⟨a,b,r,c,d⟩:=Qpi.1 h1
 refine⟨by simpa using a,b,r,?_,d⟩
 rw[show(p.Element-((0:Nat):Int)).toNat=p.Element.toNat by simp] at c
 exact c
theorem Zux:∀s∈Q5v n o,StrV s:=fun s hs=>by
 obtain⟨p,hp,rfl⟩:=List.mem_map.1 hs
 obtain⟨_,_,r,h1,h2⟩:=Zgc hI hp
 exact hI.v r (List.mem_of_getElem? h1) _ (List.mem_of_getElem? h2)
theorem Zfj (hf:FedV n ws):(totS (Q5v n o)).Mass=(totS ws).Mass∧(totS (Q5v n o)).Heat+(ls.map fun l=>l.Heat).sum=(totS ws).Heat∧(totS (Q5v n o)).Silica+(ls.map fun l=>l.Silica).sum+(ls.map fun l=>l.Scale).sum=(totS ws).Silica∧(totS (Q5v n o)).Gas+(ls.map fun l=>l.Gas).sum=(totS ws).Gas:=by
 have e:ws.take (wcn n n.Elements.length)=ws:=List.take_of_length_le (by rw[hf.len];exact Nat.le_refl _)
 have h1:=hI.m
 have h2:=hI.h
 have h3:=hI.q
 have h4:=hI.g
 rw[Zkb hI,e] at h1 h2 h3 h4
 exact⟨h1,h2,h3,h4⟩
end
theorem Q2m (N:Nat) (l:List Qaa) (k:List Qaa→Option (List Qaa)) (hl:l.length≤1000):∀(m i:Nat) (acc:List Qaa),(l.drop i).length<m→acc.length=i→Qeg N l k m acc i=k (acc++l.drop i):=by
 intro m
 induction m with
 |zero=>intro i _ h;exact absurd h (Nat.not_lt_zero _)
 |succ m ih=>
  intro i acc h ha
  rw[Qeg]
  cases hd:l.drop i with
  |nil=>
   have:=Qb4 hd
   simp[show ¬((i:Int)<l.length) from by omega]
  |cons p q=>
   obtain⟨hg,hd',hlt⟩:=Qbs hd
   simp only[show decide ((i:Int)<l.length)=true from by simpa using hlt,cond_true,Qb6 hg,Ql7,Option.bind_some,chk]
   rw[show decide ((acc.length+[p].length)*32≤140737488355328)=true by simp;omega,cond_true,Qbm (x:=(i:Int)+1) (by omega) (by omega),show(i:Int)+1=((i+1:Nat):Int) by omega,
    ih (i+1) _ (by rw[hd'];rw[hd] at h;simp at h;omega) (by simp[ha]),hd',List.append_assoc]
   rfl
theorem Qs5 {N:Nat}{l:List Qaa}(hl:l.length≤1000) (hN:1001≤N):Qhf N l=some l:=by
 unfold Qhf
 simp only[Qbn]
 refine(Q2m N l _ hl N 0 [] (by simp;omega) rfl).trans ?_
 rw[List.drop_zero,List.nil_append]
def Qx0 (ls:List Qa1):Qa1:=⟨(ls.map fun l=>l.Heat).sum,(ls.map fun l=>l.Silica).sum,(ls.map fun l=>l.Gas).sum,(ls.map fun l=>l.Scale).sum⟩
theorem Zl7 {N:Nat}{n:GNet}(hs:Qjy n) (hN:1001≤N):Qf6 N n.Table n.Elements (Qvx n)=some (Qh9 n):=by
 have e0:=hs.e
 unfold Qf6
 have h1:=Q3r hs hN (Qvx n) N 0 (by simp;omega)
 rw[List.drop_zero] at h1
 exact h1
theorem Qw9 {n:GNet}(hs:Qjy n):(Qh9 n).length≤450:=by
 have e0:=hs.e
 have h2:=Qtd n.Elements 0 fun x hx=>(hs.x x hx).2
 have h3:=List.length_filter_le (fun p=>!(Qvx n).contains (pq p)) (Qm2 0 n.Elements)
 unfold Qh9
 omega
theorem Zkm {n:GNet}{ws:List Qaa}{o:List (List Qaa)}{ls:List Qa1}(hI:InvT n ws n.Elements.length o ls) (hf:FedV n ws):(0≤(Qx0 ls).Heat∧(Qx0 ls).Heat≤4000000000)∧(0≤(Qx0 ls).Silica∧(Qx0 ls).Silica≤10000000000)∧(0≤(Qx0 ls).Gas∧(Qx0 ls).Gas≤1000000000)∧0≤(Qx0 ls).Scale∧(Qx0 ls).Scale≤10000000000:=by
 obtain⟨k1,k2,k3,k4⟩:=Zfj hI hf
 have v:=Qo5 (Zux hI)
 have w:=Qo5 hf.v
 have hm:=hf.m
 have hg:=hf.g
 have n1:=Qhd (fun l:Qa1=>l.Heat) ls fun l h=>(hI.l0 l h).1
 have n2:=Qhd (fun l:Qa1=>l.Silica) ls fun l h=>(hI.l0 l h).2.1
 have n3:=Qhd (fun l:Qa1=>l.Gas) ls fun l h=>(hI.l0 l h).2.2.1
 have n4:=Qhd (fun l:Qa1=>l.Scale) ls fun l h=>(hI.l0 l h).2.2.2
 have:=v.h0
 have:=v.s0
 have:=v.g0
 have:=w.h1
 have:=w.s1
 unfold Qx0
 dsimp only
 omega
end
section
open Go.RowKit
theorem Zfb:Qhb 2000=some true:=by decide +kernel
end
section
open Go.RowKit
theorem Q3y {N:Nat}{n:GNet}(hs:Qjy n) (hN:1001≤N) {ws:List Qaa}(hl:ws.length≤1000):Qie N n ws=some (fedI n ws):=by
 have e0:=hs.e
 unfold Qie fedI
 simp only[Qbn,Zma 1 (show n.Elements.length≤1000 by omega) hN,Option.bind_some,Zhy,Zju hl hN,Zq1 hl hN]
 by_cases h1:ws.length=wcn n n.Elements.length
 ·rw[decide_eq_true h1,show((ws.length:Int) != (wcn n n.Elements.length:Int))=false by rw[bne_eq_false_iff_eq];omega]
  cases ha:ws.all strB with
  |false=>rfl
  |true=>
   have hall:∀s∈ws,StrV s:=fun s h=>Qpr.1 (List.all_eq_true.1 ha s h)
   rw[Qvz hall hl]
   simp only[cond_false,Bool.not_true,Bool.true_and,cond_true]
   by_cases h2:(totS ws).Mass>1000000
   ·rw[decide_eq_true h2,if_pos h2];rfl
   ·rw[decide_eq_false h2,if_neg h2]
    by_cases h3:(totS ws).Gas>1000000000
    ·rw[decide_eq_true h3,if_pos h3];rfl
    ·rw[decide_eq_false h3,if_neg h3];rfl
 ·rw[decide_eq_false h1,show((ws.length:Int) != (wcn n n.Elements.length:Int))=true by rw[bne_iff_ne];omega];rfl
theorem Zg1 (N:Nat) (l:List Int) (k:Unit→Option Bool) (hl:l.length≤1000):∀(m i:Nat),(l.drop i).length<m→Qfq N l l k m i=k ():=by
 intro m
 induction m with
 |zero=>intro i h;exact absurd h (Nat.not_lt_zero _)
 |succ m ih=>
  intro i h
  rw[Qfq]
  cases hd:l.drop i with
  |nil=>
   have:=Qb4 hd
   simp[show ¬((i:Int)<l.length) from by omega]
  |cons x q=>
   obtain⟨hg,hd',hlt⟩:=Qbs hd
   simp only[show decide ((i:Int)<l.length)=true from by simpa using hlt,cond_true,Qb6 hg,Option.bind_some,bne_self_eq_false,cond_false]
   rw[Qbm (x:=(i:Int)+1) (by omega) (by omega),show(i:Int)+1=((i+1:Nat):Int) by omega,ih (i+1) (by rw[hd'];rw[hd] at h;simp at h;omega)]
theorem Zro {N:Nat}{l:List Int}(hl:l.length≤1000) (hN:1001≤N):Qkw N l l=some true:=by
 unfold Qkw
 simp only[Qbn,bne_self_eq_false,cond_false]
 exact Zg1 N l _ hl N 0 (by simp;omega)
end
section
set_option maxRecDepth 100000
set_option maxHeartbeats 4000000
open Go.RowKit
def Qfk (N:Nat) (k1:Unit→Option Bool) (p1:(List (List Qaa))):Nat→Int→Option Bool
  |0,_=>none
  |n7+1,y5=>
    bif (decide (y5<(p1.length:Int))) then
     (getI p1 y5).bind fun x9=>
     bif (decide ((x9.length:Int)>25)) then
      some false
     else
      Qfk N k1 p1 n7 (w64 (y5+1))
    else
     k1 ()
def Qma (N:Nat) (p0:GNet) (p1:(List (List Qaa))):Option Bool:=
  Qbn (fun _=>
    (Qmb N p0 ([])).bind fun x3=>
    bif x3 then
     some (decide ((p1.length:Int)≤8))
    else
     some false) fun k1:Unit→Option Bool=>
  Qfk N k1 p1 N 0
def Qrq (p1:(List (List Qaa))):AV:=.dat 1 ((p1:List (List Qaa)).map Qaf)
def Znv (p0:GNet):AV:=.dat 7 ((p0.Elements:List Qad).map Qai)
def Qyo (p0:GNet):Slot:=.own 2 [[(.dat 5 ((p0.Table:List GRow).map Qa7)),(Znv p0)]]
def Znu (p0:GNet):AV:=.agg [(.dat 5 ((p0.Table:List GRow).map Qa7)),(Znv p0)]
def Q49 (p0:GNet) (x3:Bool):List (Nat×Rec):=[(1,rp [fu 14,((.tmp 18),(Znu p0)),((.const (.slice none 0 0)),nilS)] (B (x3)))]
def Zt9:AV:=.dat 4 (([]:List Qaa).map Qae)
theorem Q0r (N:Nat) (p0:GNet) (p1:(List (List Qaa))) (r:Bool) (h:Qma N p0 p1=some r):Spec prog 39 [(.agg (Qhv p0)),(.dat 1 (p1.map Qaf))] [] (B r) []:=by
  refine Qal func39 rfl 0 (nle rfl) (fun X φ0 w0 hφ0 hd0=>?_)
  unfold Qma at h
  refine wxz ?_
  obtain⟨k1,hk_k1,h⟩:=jko h
  refine wjn (τ:=Unit) (fun t=>k1 t=some r) (fun _=>⟨mk 25 [(1,(Qrq p1)),(2,.ref 0 2 0 0)],[(Qyo p0)]⟩) (fun t h=>?_) ?_
  ·subst hk_k1
   obtain⟨x3,hf2,h⟩:=bno h
   refine hpre (A:=(Q49 p0 x3)) ⟨awk (rd':=(.func 14,(.fn (.func 14) [] []))::[(.tmp 18,(Znu p0)),((.const (.slice none 0 0)),Zt9)]) ⟨rfl,lrf,rfl,lrf,rfl,Less.nil,tv⟩ (apv Zsn (Q0s N p0 ([]) _ hf2) (nlc (NLt.agg _ (nlc (nld Qan _) (nlc (nld Qab _) nl0))) (nlc (nld Qak _) nl0)) nll),tv⟩ fun q1_=>?_
   refine bfe h (fun hb4 h=>?_) fun hb4 h=>?_
   ·refine wx tbk (hcat (Q49 p0 x3) [(2,rp [(.tmp 19,B x3)] (B true)),(4,rp [(.tmp 20,B true),(.tmp 21,(Qrq p1))] (I ((p1.length:Int))))]) (hap q1_ ⟨asb hb4 (amv rfl),ag_ (alm (c:=Qaf) (l:=p1) (aln rfl underlying49 rfl)),tv⟩)<|Qah ?_
    obtain rfl:=osi h
    exact fend ⟨[(B ((decide ((p1.length:Int)≤8))))],⟨rot,tv⟩,rfl⟩ nll
   ·exact wx tbk (hcat (Q49 p0 x3) [(2,rp [(.tmp 19,B x3)] (B false))]) (hap q1_ ⟨asb hb4 (amv rfl),tv⟩)<|Qah<|frb h
  ·skip
   refine wxz<|Qao ?_
   refine wmr (mto (n:=25) (l':=[(1,(Qrq p1)),(2,.ref 0 2 0 0),(5,I 0)]) (own':=[(Qyo p0)]) [(1,(Qrq p1)),(2,.ref 0 2 0 0),(5,I 0)] [0] [(Qyo p0)] hφ0 (pc (rnd Qag) (prr (pw pn))) (qb (lc (rnd Qan) (lc (rnd Qab) ln)) qn)) ?_
   refine Qb3 (τ:=Int) (fun n t=>Qfk N k1 p1 n t=some r) (fun y5=>⟨mk 25 [(1,(Qrq p1)),(2,.ref 0 2 0 0),(5,I y5)],[(Qyo p0)]⟩) (fun t h=>by rw[Qfk] at h;cases h) (fun n7 ih y5 h=>?_) N (0) h
   rw[Qfk] at h
   skip
   refine wsq<|wx tbk [(2,rp [(.tmp 7,(Qrq p1))] (I ((p1.length:Int))))] ⟨alm (c:=Qaf) (l:=p1) (aln rfl underlying49 rfl),tv⟩ ?_
   refine bfe h (fun hc8 h=>?_) fun hc8 h=>?_
   ·refine wft hc8<|Qap<|thn<|wsq<|Qao ?_
    obtain⟨x9,hg10,h⟩:=bno h
    obtain⟨hi11,hj12⟩:=gsm hg10
    refine wx tbk [(2,rp [(.tmp 12,(Qrq p1)),(.tmp 13,I y5)] (.dptr (Qaf (x9)) 0)),(4,rp [(.tmp 15,(.dat 4 ((x9:List Qaa).map Qae)))] (I ((x9.length:Int))))] ⟨aid rfl underlying49 ti28 rfl rfl hi11 (mgt Qaf hj12) rfl,alm (c:=Qae) (l:=x9) (aln rfl underlying28 rfl),tv⟩ ?_
    refine bfe h (fun hc13 h=>?_) fun hc13 h=>?_
    ·exact wft hc13<|wxz<|Qah<|Qaq<|Qac<|Qac<|Qaq<|Qac<|frb h
    ·exact wfn hc13<|Qap<|bln<|thn<|wxz1<|thn<|arm (mto (n:=25) [(1,(Qrq p1)),(2,.ref 0 2 0 0),(5,(I (w64 (y5+1))))] [0] [(Qyo p0)] hφ0 (pc (rnd Qag) (prr (pw pn))) (qb (lc (rnd Qan) (lc (rnd Qab) ln)) qn)) (ih (w64 (y5+1)) h)
   ·exact wfn hc8<|Qbl<|Qax<|Qax<|Qbk rfl<|thn<|⟨(),h,(mto (n:=25) [(1,(Qrq p1)),(2,.ref 0 2 0 0)] [0] [(Qyo p0)] hφ0 (pc (rnd Qag) (prr pn)) (qb (lc (rnd Qan) (lc (rnd Qab) ln)) qn))⟩
def Qfg (N:Nat) (p0:(List (List Qaa))) (k2:(List (List Qaa))→Option (List (List Qaa))):Nat→(List (List Qaa))→Int→Option (List (List Qaa))
  |0,_,_=>none
  |n7+1,y3,y4=>
    bif (decide (y4<(p0.length:Int))) then
     (getI p0 y4).bind fun x9=>
     (Qhf N x9).bind fun x14=>
     chk (decide ((y3.length+([x14]).length)*24≤140737488355328))<|
     Qfg N p0 k2 n7 (y3++([x14])) (w64 (y4+1))
    else
     k2 (y3)
def Qjv (N:Nat) (p0:(List (List Qaa))):Option (List (List Qaa)):=
  Qbn (fun y1=>
    some y1) fun k2:(List (List Qaa))→Option (List (List Qaa))=>
  Qfg N p0 k2 N ([]) 0
def Qyn (p0:(List (List Qaa))):AV:=.dat 1 ((p0:List (List Qaa)).map Qaf)
def Q48 (y3:(List (List Qaa))):AV:=.acc 0 45 1 ((y3:List (List Qaa)).map Qaf)
def Q47 (x14:(List Qaa)):AV:=.dat 4 ((x14:List Qaa).map Qae)
theorem Qpl (N:Nat) (p0:(List (List Qaa))) (r:(List (List Qaa))) (h:Qjv N p0=some r):Spec prog 41 [(.dat 1 (p0.map Qaf))] [] (.dat 1 (r.map Qaf)) []:=by
  refine Qal func41 rfl 0 (nle rfl) (fun X φ0 w0 hφ0 hd0=>?_)
  unfold Qjv at h
  refine wxz<|wxz ?_
  obtain⟨k2,hk_k2,h⟩:=jko h
  refine wjn (τ:=(List (List Qaa))) (fun t=>k2 t=some r) (fun y1=>⟨mk 20 [(3,(.acc 0 45 1 ((y1:List (List Qaa)).map Qaf)))],[.tok]⟩) (fun y1 h=>?_) ?_
  ·subst hk_k2
   refine wxz<|Qah ?_
   obtain rfl:=osi h
   exact fend ⟨[(.dat 1 ((y1:List (List Qaa)).map Qaf))],⟨Qep (v:=(.acc 0 45 1 ((y1:List (List Qaa)).map Qaf))) (rot) Less.acc,tv⟩,rfl⟩ (nld Qag _)
  ·skip
   refine wxz<|Qao ?_
   refine wmr (Mor.trans (Qq8 0 45 1 3 (by kernel_rfl) (by kernel_rfl)) (mto (n:=20) (l':=[(0,(Qyn p0)),(3,(.acc 0 45 1 ((([]):List (List Qaa)).map Qaf))),(4,I 0)]) (own':=[.tok]) [(0,(Qyn p0)),(3,(.acc 0 45 1 (([]:List (List Qaa)).map Qaf))),(4,I 0)] [0] [.tok] hφ0 (pc (rnd Qag) (pc (.rn (Qdb rfl (Qcb Qag _))) (pw pn))) (qc .tok qn))) ?_
   refine Qb3 (τ:=(List (List Qaa))×Int) (fun n t=>Qfg N p0 k2 n t.1 t.2=some r) (fun ⟨y3,y4⟩=>⟨mk 20 [(0,(Qyn p0)),(3,(Q48 y3)),(4,I y4)],[.tok]⟩) (fun t h=>by rw[Qfg] at h;cases h) (fun n7 ih t h=>?_) N ([],0) h
   obtain⟨y3,y4⟩:=t
   rw[Qfg] at h
   skip
   refine wsq<|wx tbk [(2,rp [(.tmp 6,(Qyn p0))] (I ((p0.length:Int))))] ⟨alm (c:=Qaf) (l:=p0) (aln rfl underlying49 rfl),tv⟩ ?_
   refine bfe h (fun hc8 h=>?_) fun hc8 h=>?_
   ·refine wft hc8<|Qap<|thn<|wsq<|Qao ?_
    obtain⟨x9,hg10,h⟩:=bno h
    obtain⟨hi11,hj12⟩:=gsm hg10
    obtain⟨x14,hf13,h⟩:=bno h
    obtain⟨ha15,h⟩:=cko h
    refine wx1 tbk [(3,rp [(.tmp 12,(Qyn p0)),(.tmp 13,I y4)] (.dptr (Qaf (x9)) 0)),(5,rp [fu 19,(.tmp 15,(.dat 4 ((x9:List Qaa).map Qae)))] (Q47 x14)),(6,rp [(.tmp 16,(Q47 x14))] (.dat 1 (([x14]:List (List Qaa)).map Qaf))),(7,⟨[(.tmp 11,(Q48 y3)),(.tmp 17,(.dat 1 (([x14]:List (List Qaa)).map Qaf)))],[(0,.tok),(1,.unused)],(.acc 1 45 1 ((y3++([x14]):List (List Qaa)).map Qaf)),[(0,.dead),(1,.tok)],false⟩)] ⟨aid rfl underlying49 ti28 rfl rfl hi11 (mgt Qaf hj12) rfl,apv Q6d (Qkx N x9 _ hf13) (nlc (nld Qak _) nl0) (nld Qak _),Qb7 (vs:=[(Q47 x14)]) rfl underlying31 ti45 tz45 rfl (by decide) rfl (by decide) (by rfl) (by rfl) (by rfl) rfl,Qhc rfl underlying31 te45 (Base.acc _ _) rfl rfl (by rfl) (Qko Qaf ha15) (Qkn Qaf ha15 (by decide)) (Qkm Qaf) rfl rfl,tv⟩<|bln<|thn<|wxz1<|thn ?_
    exact arm (mto (n:=20) [(0,(Qyn p0)),(3,(.acc 1 45 1 ((y3++([x14]):List (List Qaa)).map Qaf))),(4,(I (w64 (y4+1))))] [1] [.tok] hφ0 (pc (rnd Qag) (pc (.rn (Qdb rfl (Qcb Qag _))) (pw pn))) (qc .tok qn)) (ih (y3++([x14]),w64 (y4+1)) h)
   ·exact wfn hc8<|Qbl<|Qax<|Qax<|Qbk rfl<|thn<|⟨(y3),h,(mto (n:=20) [(3,(Q48 y3))] [0] [.tok] hφ0 (pc (.rn (Qdb rfl (Qcb Qag _))) pn) (qc .tok qn))⟩
def Qfp (N:Nat) (p0:GNet) (p2:(List (List Qaa))) (k7:Unit→Option Int):Nat→Int→Option Int
  |0,_=>none
  |n10+1,y8=>
    bif (decide (y8<(p2.length:Int))) then
     (getI p2 y8).bind fun x12=>
     (Qi4 N p0 x12).bind fun x17=>
     bif (x17 != 0) then
      some x17
     else
      Qfp N p0 p2 k7 n10 (w64 (y8+1))
    else
     k7 ()
def Qku (N:Nat) (p0:GNet) (p1:(List Int)) (p2:(List (List Qaa))):Option Int:=
  (Qjs N p0 p1).bind fun x2=>
  bif (x2 != 0) then
   some x2
  else
   (Qc7 N (p2.length:Int) 1 6).bind fun x5=>
   bif (!x5) then
    some 3
   else
    Qbn (fun _=>
      some 0) fun k7:Unit→Option Int=>
    Qfp N p0 p2 k7 N 0
def Znq (p0:GNet):AV:=.dat 7 ((p0.Elements:List Qad).map Qai)
def Znp (p0:GNet):AV:=.agg [(.dat 5 ((p0.Table:List GRow).map Qa7)),(Znq p0)]
def Qvr (p2:(List (List Qaa))):AV:=.dat 1 ((p2:List (List Qaa)).map Qaf)
def Q8g (p0:GNet):Slot:=.own 2 [[(.dat 5 ((p0.Table:List GRow).map Qa7)),(Znq p0)]]
theorem Qql (N:Nat) (p0:GNet) (p1:(List Int)) (p2:(List (List Qaa))) (r:Int) (h:Qku N p0 p1 p2=some r):Spec prog 77 [(.agg (Qhv p0)),(.dat 1 (p1.map Qav)),(.dat 1 (p2.map Qaf))] [] (I r) []:=by
  refine Qal func77 rfl 0 (nle rfl) (fun X φ0 w0 hφ0 hd0=>?_)
  unfold Qku at h
  refine wxz<|wsq ?_
  obtain⟨x2,hf1,h⟩:=bno h
  refine wx tbk [(2,rp [fu 73,(.tmp 11,(Znp p0)),(.tmp 12,(.dat 1 ((p1:List Int).map Qav)))] (I x2))] ⟨apv Zhj (Qpg N p0 p1 _ hf1) (nlc (NLt.agg _ (nlc (nld Qan _) (nlc (nld Qab _) nl0))) (nlc (nld Qaj _) nl0)) nll,tv⟩<|wxz ?_
  refine bfe h (fun hc3 h=>?_) fun hc3 h=>?_
  ·refine wft hc3<|wxz<|Qah<|Qac ?_
   obtain rfl:=osi h
   exact fend ⟨[I x2],⟨rot,tv⟩,rfl⟩ nll
  ·refine wfn hc3<|Qap<|thn<|wsq ?_
   obtain⟨x5,hf4,h⟩:=bno h
   refine wx tbk [(1,rp [(.tmp 17,(Qvr p2))] (I ((p2.length:Int)))),(2,rp [fu 65,(.tmp 18,(I ((p2.length:Int)))),ci 1,ci 6] (B x5))] ⟨alm (c:=Qaf) (l:=p2) (aln rfl underlying31 rfl),apv Ql1 (Qd2 N (p2.length:Int) 1 6 _ hf4) (nlcc (nlc nll nl0)) nll,tv⟩ ?_
   refine bfe h (fun hc6 h=>?_) fun hc6 h=>?_
   ·refine wft hc6<|wxz<|Qah<|Qac ?_
    obtain rfl:=osi h
    exact fend ⟨[I 3],⟨rot,tv⟩,rfl⟩ nll
   ·refine wfn hc6<|Qap<|thn ?_
    obtain⟨k7,hk_k7,h⟩:=jko h
    refine wjn (τ:=Unit) (fun t=>k7 t=some r) (fun _=>⟨mk 34 [],[]⟩) (fun t h=>?_) ?_
    ·subst hk_k7
     refine wxz<|Qah ?_
     obtain rfl:=osi h
     exact fend ⟨[I 0],⟨rot,tv⟩,rfl⟩ nll
    ·skip
     refine wx tbk [(1,rp [(.tmp 21,(Qvr p2))] (I ((p2.length:Int))))] ⟨alm (c:=Qaf) (l:=p2) (aln rfl underlying31 rfl),tv⟩<|Qao ?_
     refine wmr (mto (n:=34) (l':=[(3,.ref 0 2 0 0),(21,(Qvr p2)),(22,(I ((p2.length:Int)))),(23,I 0)]) (own':=[(Q8g p0)]) [(3,.ref 0 2 0 0),(21,(Qvr p2)),(22,(I ((p2.length:Int)))),(23,I 0)] [0] [(Q8g p0)] hφ0 (prr (pc (rnd Qag) (pw (pw pn)))) (qb (lc (rnd Qan) (lc (rnd Qab) ln)) qn)) ?_
     refine Qb3 (τ:=Int) (fun n t=>Qfp N p0 p2 k7 n t=some r) (fun y8=>⟨mk 34 [(3,.ref 0 2 0 0),(21,(Qvr p2)),(22,(I ((p2.length:Int)))),(23,I y8)],[(Q8g p0)]⟩) (fun t h=>by rw[Qfp] at h;cases h) (fun n10 ih y8 h=>?_) N (0) h
     rw[Qfp] at h
     skip
     refine wxz<|wsq ?_
     refine bfe h (fun hc11 h=>?_) fun hc11 h=>?_
     ·refine wft hc11<|Qap<|thn<|wsq<|Qao ?_
      obtain⟨x12,hg13,h⟩:=bno h
      obtain⟨hi14,hj15⟩:=gsm hg13
      refine wx tbk [(0,rp [(.tmp 21,(Qvr p2)),(.tmp 23,I y8)] (.dptr (Qaf (x12)) 0))] ⟨aid rfl underlying31 ti45 rfl rfl hi14 (mgt Qaf hj15) rfl,tv⟩ ?_
      obtain⟨x17,hf16,h⟩:=bno h
      refine wx tbk [(2,rp [fu 94,(.tmp 27,(Znp p0)),(.tmp 28,(.dat 4 ((x12:List Qaa).map Qae)))] (I x17))] ⟨apv Zhe (Qor N p0 x12 _ hf16) (nlc (NLt.agg _ (nlc (nld Qan _) (nlc (nld Qab _) nl0))) (nlc (nld Qak _) nl0)) nll,tv⟩<|wxz ?_
      refine bfe h (fun hc18 h=>?_) fun hc18 h=>?_
      ·refine wft hc18<|wxz<|Qah<|Qaq<|Qac<|Qac<|Qaq<|Qac ?_
       obtain rfl:=osi h
       exact fend ⟨[I x17],⟨rot,tv⟩,rfl⟩ nll
      ·exact wfn hc18<|Qap<|bln<|thn<|wxz1<|thn<|arm (mto (n:=34) [(3,.ref 0 2 0 0),(21,(Qvr p2)),(22,(I ((p2.length:Int)))),(23,(I (w64 (y8+1))))] [0] [(Q8g p0)] hφ0 (prr (pc (rnd Qag) (pw (pw pn)))) (qb (lc (rnd Qan) (lc (rnd Qab) ln)) qn)) (ih (w64 (y8+1)) h)
     ·exact wfn hc11<|Qbl<|Qax<|Qax<|Qbk rfl<|thn<|⟨(),h,(mto (n:=34) [] [] [] hφ0 pn qn)⟩
def Qd3 (N:Nat) (p0:GNet) (p1:(List Int)) (k2:(List Qbt)→Option ((List Qbt)×Bool)) (p2:(List (List Qaa))):Nat→(List Qbt)→Int→Option ((List Qbt)×Bool)
  |0,_,_=>none
  |n7+1,y3,y4=>
    bif (decide (y4<(p2.length:Int))) then
     (getI p2 y4).bind fun x9=>
     (Qfs N p0 p1 x9).bind (
      Sum.elim (fun x15=>
        bif (decide (x15≥0)) then
         some ([],false)
        else
         none)
      (fun x17=>
        bif (decide (x17.1≥0)) then
         some ([],false)
        else
         chk (decide ((p0.Elements.length:Int).toNat≤x17.2.2.1.length))<|
         chk (decide ((p0.Elements.length:Int).toNat≤x17.2.2.2.1.length))<|
         chk (decide (p1.length≤x17.2.2.2.2.length))<|
         chk (decide ((y3.length+([(⟨p0,(⟨x17.2.2.1.take ((p0.Elements.length:Int).toNat),x17.2.2.2.1.take ((p0.Elements.length:Int).toNat),x17.2.2.2.2.take p1.length⟩:Qhw),x9,x17.2.1⟩:Qbt)]).length)*8≤140737488355328))<|
         Qd3 N p0 p1 k2 p2 n7 (y3++([(⟨p0,(⟨x17.2.2.1.take ((p0.Elements.length:Int).toNat),x17.2.2.2.1.take ((p0.Elements.length:Int).toNat),x17.2.2.2.2.take p1.length⟩:Qhw),x9,x17.2.1⟩:Qbt)])) (w64 (y4+1))))
    else
     k2 (y3)
def Qij (N:Nat) (p0:GNet) (p1:(List Int)) (p2:(List (List Qaa))):Option ((List Qbt)×Bool):=
  Qbn (fun y1=>
    some (y1,true)) fun k2:(List Qbt)→Option ((List Qbt)×Bool)=>
  Qd3 N p0 p1 k2 p2 N ([]) 0
def Qm0 (p2:(List (List Qaa))):AV:=.dat 1 ((p2:List (List Qaa)).map Qaf)
def Qio (p1:(List Int)):AV:=.dat 1 ((p1:List Int).map Qav)
def Qqi (p0:GNet):AV:=.dat 5 ((p0.Table:List GRow).map Qa7)
def Qqh (p0:GNet):AV:=.dat 7 ((p0.Elements:List Qad).map Qai)
def Qop (p0:GNet):Slot:=.own 2 [[(Qqi p0),(Qqh p0)]]
def Qmg (y3:(List Qbt)):AV:=.acc 1 136 1 ((y3:List Qbt).map Qbe)
def Qoo (p0:GNet):AV:=.agg [(Qqi p0),(Qqh p0)]
def Qd9 (x9:(List Qaa)):AV:=.dat 4 ((x9:List Qaa).map Qae)
def Zno:Slot:=.own 1 [[(.lit (.pointer none))]]
def Zeo:AV:=.dat 1 (([]:List Qbt).map Qbe)
def Qn5:Slot:=.own 1 [[(.ref 4 7 (0) 0)]]
def Q44 (p0:GNet) (p1:(List Int)) (x9:(List Qaa)) (x17:(Int×Int×(List (List Qaa))×(List Qa1)×(List Int))):Slot:=.own 7 [[(Qqi p0),(Qqh p0),(.own 5 1 (0) ((p0.Elements.length:Int).toNat)),(.own 6 4 (0) ((p0.Elements.length:Int).toNat)),(.own 7 1 (0) (p1.length)),(Qd9 x9),(I (x17.2.1))]]
def Qvq (x17:(Int×Int×(List (List Qaa))×(List Qa1)×(List Int))):Slot:=.own 4 ((x17.2.2.2.1:List Qa1).map Qbf)
def Qqv (x17:(Int×Int×(List (List Qaa))×(List Qa1)×(List Int))):Slot:=.own 1 ((x17.2.2.2.2:List Int).map Qav)
def Qqu (x17:(Int×Int×(List (List Qaa))×(List Qa1)×(List Int))) (p0:GNet):AV:=.dat 1 ((x17.2.2.1.take ((p0.Elements.length:Int).toNat):List (List Qaa)).map Qaf)
def Qvp (x17:(Int×Int×(List (List Qaa))×(List Qa1)×(List Int))) (p0:GNet):AV:=.dat 4 ((x17.2.2.2.1.take ((p0.Elements.length:Int).toNat):List Qa1).map Qbf)
def Zeq (p0:GNet) (x17:(Int×Int×(List (List Qaa))×(List Qa1)×(List Int))) (p1:(List Int)) (x9:(List Qaa)):AV:=.dat 1 (([(⟨p0,(⟨x17.2.2.1.take ((p0.Elements.length:Int).toNat),x17.2.2.2.1.take ((p0.Elements.length:Int).toNat),x17.2.2.2.2.take p1.length⟩:Qhw),x9,x17.2.1⟩:Qbt)]:List Qbt).map Qbe)
def Zep (y3:(List Qbt)) (p0:GNet) (x17:(Int×Int×(List (List Qaa))×(List Qa1)×(List Int))) (p1:(List Int)) (x9:(List Qaa)):AV:=.acc 8 136 1 ((y3++([(⟨p0,(⟨x17.2.2.1.take ((p0.Elements.length:Int).toNat),x17.2.2.2.1.take ((p0.Elements.length:Int).toNat),x17.2.2.2.2.take p1.length⟩:Qhw),x9,x17.2.1⟩:Qbt)]):List Qbt).map Qbe)
theorem Qnt (N:Nat) (p0:GNet) (p1:(List Int)) (p2:(List (List Qaa))) (r:((List Qbt)×Bool)) (h:Qij N p0 p1 p2=some r):Spec prog 78 [(.agg (Qhv p0)),(.dat 1 (p1.map Qav)),(.dat 1 (p2.map Qaf))] [] (.tup [(.dat 1 (r.1.map Qbe)),(B r.2)]) []:=by
  refine Qal func78 rfl 0 (nle rfl) (fun X φ0 w0 hφ0 hd0=>?_)
  unfold Qij at h
  refine wxz<|wxz ?_
  obtain⟨k2,hk_k2,h⟩:=jko h
  refine wjn (τ:=(List Qbt)) (fun t=>k2 t=some r) (fun y1=>⟨mk 34 [(8,(.acc 0 136 1 ((y1:List Qbt).map Qbe)))],[.tok]⟩) (fun y1 h=>?_) ?_
  ·subst hk_k2
   refine wxz<|Qah ?_
   obtain rfl:=osi h
   exact fend ⟨[(.dat 1 ((y1:List Qbt).map Qbe)),B true],⟨Qep (v:=(.acc 0 136 1 ((y1:List Qbt).map Qbe))) (rot) Less.acc,rot,tv⟩,rfl⟩ (NLt.tup _ (nlc (nld Qb1 _) (nlc nll nl0)))
  ·skip
   refine wx tbk [(1,rp [(.tmp 13,(Qm0 p2))] (I ((p2.length:Int))))] ⟨alm (c:=Qaf) (l:=p2) (aln rfl underlying31 rfl),tv⟩<|Qao ?_
   refine wmr (Mor.trans (Qq8 1 136 1 8 (by kernel_rfl) (by kernel_rfl)) (mto (n:=34) (l':=[(1,(Qio p1)),(3,.ref 0 2 0 0),(8,(.acc 1 136 1 ((([]):List Qbt).map Qbe))),(13,(Qm0 p2)),(14,(I ((p2.length:Int)))),(15,I 0)]) (own':=[(Qop p0),.tok]) [(1,(Qio p1)),(3,.ref 0 2 0 0),(8,(.acc 1 136 1 (([]:List Qbt).map Qbe))),(13,(Qm0 p2)),(14,(I ((p2.length:Int)))),(15,I 0)] [0,1] [(Qop p0),.tok] hφ0 (pc (rnd Qaj) (prr (pc (.rn (Qdb rfl (Qcb Qb1 _))) (pc (rnd Qag) (pw (pw pn)))))) (qb (lc (rnd Qan) (lc (rnd Qab) ln)) (qc .tok qn)))) ?_
   refine Qb3 (τ:=(List Qbt)×Int) (fun n t=>Qd3 N p0 p1 k2 p2 n t.1 t.2=some r) (fun ⟨y3,y4⟩=>⟨mk 34 [(1,(Qio p1)),(3,.ref 0 2 0 0),(8,(Qmg y3)),(13,(Qm0 p2)),(14,(I ((p2.length:Int)))),(15,I y4)],[(Qop p0),.tok]⟩) (fun t h=>by rw[Qd3] at h;cases h) (fun n7 ih t h=>?_) N ([],0) h
   obtain⟨y3,y4⟩:=t
   rw[Qd3] at h
   skip
   refine wxz<|wsq ?_
   refine bfe h (fun hc8 h=>?_) fun hc8 h=>?_
   ·refine wft hc8<|Qap<|thn<|wsq<|Qao ?_
    obtain⟨x9,hg10,h⟩:=bno h
    obtain⟨hi11,hj12⟩:=gsm hg10
    refine wx tbk [(0,rp [(.tmp 13,(Qm0 p2)),(.tmp 15,I y4)] (.dptr (Qaf (x9)) 0))] ⟨aid rfl underlying31 ti45 rfl rfl hi11 (mgt Qaf hj12) rfl,tv⟩ ?_
    obtain⟨x14,hf13,h⟩:=bno h
    rcases x14 with x15 |x17
    ·replace h:=Zjt h
     refine wx tbk [(3,⟨[fu 58,(.tmp 20,(Qoo p0)),(.tmp 21,(Qio p1)),(.tmp 22,(Qd9 x9))],[(2,.unused),(3,.unused)],(.tup [(.lit (.pointer none)),I x15]),[(2,Zno),(3,.own 1 [[I x15]])],false⟩)] ⟨Qau (first:=[]) (cap:=[]) (vs:=[(Qoo p0),(Qio p1),(Qd9 x9)]) (σr:=[]) (σr':=[Zno,(.own 1 [[I x15]])]) (res':=(.tup [(.lit (.pointer none)),I x15])) [2,3] rfl Qtp (Qkd N p0 p1 x9 _ hf13) rfl (Qbp (rnc (.plain _ (NLt.agg _ (nlc (nld Qan _) (nlc (nld Qab _) nl0)))) (rnc (pld Qaj) (rnc (pld Qak) rn0)))) Qat (slc (Qam (rnc (.plain _ nll) rn0)) (slc (Qam (rnc (.plain _ nll) rn0)) Qat)) (.plain _ (NLt.tup _ (nlcc nl0))) rfl rfl rfl,tv⟩<|wsq<|wxz ?_
     refine bfe h (fun hc16 h=>?_) fun hc16 h=>?_
     ·refine wft hc16<|wxz<|Qah<|Qac<|Qaq<|Qac<|Qac<|Qaq<|Qac ?_
      obtain rfl:=osi h
      exact fend ⟨[Zeo,B false],⟨Qep (v:=nilS) (rot) Less.nil,rot,tv⟩,rfl⟩ (NLt.tup _ (nlc (nld Qb1 _) (nlc nll nl0)))
     ·refine wfn hc16<|Qap<|thn ?_
      cases h
    ·replace h:=Zjs h
     refine wx tbk [(3,⟨[fu 58,(.tmp 20,(Qoo p0)),(.tmp 21,(Qio p1)),(.tmp 22,(Qd9 x9))],[(2,.unused),(3,.unused),(4,.unused),(5,.unused),(6,.unused),(7,.unused)],(.tup [.ref 4 7 0 0,I x17.1]),[(2,Qn5),(3,.own 1 [[I x17.1]]),(4,(Q44 p0 p1 x9 x17)),(5,(.own 1 ((x17.2.2.1:List (List Qaa)).map Qaf))),(6,(Qvq x17)),(7,(Qqv x17))],false⟩)] ⟨Qau (first:=[]) (cap:=[]) (vs:=[(Qoo p0),(Qio p1),(Qd9 x9)]) (σr:=[]) (σr':=[Qn5,(.own 1 [[I x17.1]]),(Q44 p0 p1 x9 x17),(.own 1 ((x17.2.2.1:List (List Qaa)).map Qaf)),(Qvq x17),(Qqv x17)]) (res':=(.tup [.ref 4 7 0 0,I x17.1])) [2,3,4,5,6,7] rfl Qtp (Qkc N p0 p1 x9 _ hf13) rfl (Qbp (rnc (.plain _ (NLt.agg _ (nlc (nld Qan _) (nlc (nld Qab _) nl0)))) (rnc (pld Qaj) (rnc (pld Qak) rn0)))) Qat (slc (Qam (rnc (Qby rfl) rn0)) (slc (Qam (rnc (.plain _ nll) rn0)) (slc (Qam (rnc (pld Qan) (rnc (pld Qab) (rnc (Qdp rfl) (rnc (Qdp rfl) (rnc (Qdp rfl) (rnc (pld Qak) (rnc (.plain _ nll) rn0)))))))) (slc (Qbi Qag) (slc (Qbi Qay) (slc (Qbi Qaj) Qat)))))) (Zfx (rnc (Qby rfl) (rnc (.plain _ nll) rn0))) rfl rfl rfl,tv⟩<|wsq<|wxz ?_
     refine bfe h (fun hc18 h=>?_) fun hc18 h=>?_
     ·refine wft hc18<|wxz<|Qah<|Qac<|Qaq<|Qac<|Qac<|Qaq<|Qac ?_
      obtain rfl:=osi h
      exact fend ⟨[Zeo,B false],⟨Qep (v:=nilS) (rot) Less.nil,rot,tv⟩,rfl⟩ (NLt.tup _ (nlc (nld Qb1 _) (nlc nll nl0)))
     ·refine wfn hc18<|Qap<|thn ?_
      obtain⟨hz19,h⟩:=cko h
      refine wmr (Q0l [(Qop p0),.tok,Qn5,(.own 1 [[I x17.1]]),(Q44 p0 p1 x9 x17),(.own 1 ((x17.2.2.1:List (List Qaa)).map Qaf)),(Qvq x17),(Qqv x17)] (Q0m (n:=34) (m:=1) (xs:=(x17.2.2.1:List (List Qaa)).map Qaf) (l':=[(1,(Qio p1)),(3,.ref 0 2 0 0),(8,(Qmg y3)),(10,(Qd9 x9)),(11,.ref 4 7 0 0),(12,I x17.1),(13,(Qm0 p2)),(14,(I ((p2.length:Int)))),(15,I y4),(16,(B ((decide (y4<(p2.length:Int)))))),(17,(.dptr (Qaf (x9)) 0)),(18,(Qd9 x9)),(19,(.tup [.ref 4 7 0 0,I x17.1])),(20,(Qoo p0)),(21,(Qio p1)),(22,(Qd9 x9)),(23,(.tup [.ref 4 7 0 0,I x17.1])),(24,.ref 4 7 0 0),(25,I x17.1),(26,I x17.1),(27,(B ((decide (x17.1≥0)))))]) (own':=[(Qop p0),.tok,Qn5,(.own 1 [[I x17.1]]),(.own 7 [[(Qqi p0),(Qqh p0),(Qqu x17 p0),(.own 6 4 (0) ((p0.Elements.length:Int).toNat)),(.own 7 1 (0) (p1.length)),(Qd9 x9),I x17.2.1]]),.dead,(Qvq x17),(Qqv x17)]) 5 [(1,(Qio p1)),(3,.ref 0 2 0 0),(8,(Qmg y3)),(10,(Qd9 x9)),(11,.ref 4 7 0 0),(12,I x17.1),(13,(Qm0 p2)),(14,(I ((p2.length:Int)))),(15,I y4),(16,(B ((decide (y4<(p2.length:Int)))))),(17,(.dptr (Qaf (x9)) 0)),(18,(Qd9 x9)),(19,(.tup [.ref 4 7 0 0,I x17.1])),(20,(Qoo p0)),(21,(Qio p1)),(22,(Qd9 x9)),(23,(.tup [.ref 4 7 0 0,I x17.1])),(24,.ref 4 7 0 0),(25,I x17.1),(26,I x17.1),(27,(B ((decide (x17.1≥0)))))] (by kernel_rfl) (by kernel_rfl) (by kernel_rfl) ⟨rfl,(.same _),rfl,(.same _),rfl,(.same _),rfl,(.same _),rfl,(.same _),rfl,(.same _),rfl,(.same _),rfl,(.same _),rfl,(.same _),rfl,(.same _),rfl,(.same _),rfl,(.same _),rfl,(.same _),rfl,(.same _),rfl,(.same _),rfl,(.same _),rfl,(.same _),rfl,(.same _),rfl,(.same _),rfl,(.same _),rfl,(.same _),tv⟩ (qc Qd7 (qc Qd7 (qc Qd7 (qc Qd7 (qc (Qur (lc (.same _) (lc (.same _) (lc (Qof hz19) (lc (.same _) (lc (.same _) (lc (.same _) (lc (.same _) ln)))))))) (qc .dead (qc Qd7 (qc Qd7 qn)))))))))) ?_
      obtain⟨hz20,h⟩:=cko h
      refine wmr (Q0l [(Qop p0),.tok,Qn5,(.own 1 [[I x17.1]]),(.own 7 [[(Qqi p0),(Qqh p0),(Qqu x17 p0),(.own 6 4 (0) ((p0.Elements.length:Int).toNat)),(.own 7 1 (0) (p1.length)),(Qd9 x9),I x17.2.1]]),.dead,(Qvq x17),(Qqv x17)] (Q0m (n:=34) (m:=4) (xs:=(x17.2.2.2.1:List Qa1).map Qbf) (l':=[(1,(Qio p1)),(3,.ref 0 2 0 0),(8,(Qmg y3)),(10,(Qd9 x9)),(11,.ref 4 7 0 0),(12,I x17.1),(13,(Qm0 p2)),(14,(I ((p2.length:Int)))),(15,I y4),(16,(B ((decide (y4<(p2.length:Int)))))),(17,(.dptr (Qaf (x9)) 0)),(18,(Qd9 x9)),(19,(.tup [.ref 4 7 0 0,I x17.1])),(20,(Qoo p0)),(21,(Qio p1)),(22,(Qd9 x9)),(23,(.tup [.ref 4 7 0 0,I x17.1])),(24,.ref 4 7 0 0),(25,I x17.1),(26,I x17.1),(27,(B ((decide (x17.1≥0)))))]) (own':=[(Qop p0),.tok,Qn5,(.own 1 [[I x17.1]]),(.own 7 [[(Qqi p0),(Qqh p0),(Qqu x17 p0),(Qvp x17 p0),(.own 7 1 (0) (p1.length)),(Qd9 x9),I x17.2.1]]),.dead,.dead,(Qqv x17)]) 6 [(1,(Qio p1)),(3,.ref 0 2 0 0),(8,(Qmg y3)),(10,(Qd9 x9)),(11,.ref 4 7 0 0),(12,I x17.1),(13,(Qm0 p2)),(14,(I ((p2.length:Int)))),(15,I y4),(16,(B ((decide (y4<(p2.length:Int)))))),(17,(.dptr (Qaf (x9)) 0)),(18,(Qd9 x9)),(19,(.tup [.ref 4 7 0 0,I x17.1])),(20,(Qoo p0)),(21,(Qio p1)),(22,(Qd9 x9)),(23,(.tup [.ref 4 7 0 0,I x17.1])),(24,.ref 4 7 0 0),(25,I x17.1),(26,I x17.1),(27,(B ((decide (x17.1≥0)))))] (by kernel_rfl) (by kernel_rfl) (by kernel_rfl) ⟨rfl,(.same _),rfl,(.same _),rfl,(.same _),rfl,(.same _),rfl,(.same _),rfl,(.same _),rfl,(.same _),rfl,(.same _),rfl,(.same _),rfl,(.same _),rfl,(.same _),rfl,(.same _),rfl,(.same _),rfl,(.same _),rfl,(.same _),rfl,(.same _),rfl,(.same _),rfl,(.same _),rfl,(.same _),rfl,(.same _),rfl,(.same _),tv⟩ (qc Qd7 (qc Qd7 (qc Qd7 (qc Qd7 (qc (Qur (lc (.same _) (lc (.same _) (lc (.same _) (lc (Qof hz20) (lc (.same _) (lc (.same _) (lc (.same _) ln)))))))) (qc Qd7 (qc .dead (qc Qd7 qn)))))))))) ?_
      obtain⟨hz21,h⟩:=cko h
      refine wmr (Q0l [(Qop p0),.tok,Qn5,(.own 1 [[I x17.1]]),(.own 7 [[(Qqi p0),(Qqh p0),(Qqu x17 p0),(Qvp x17 p0),(.own 7 1 (0) (p1.length)),(Qd9 x9),I x17.2.1]]),.dead,.dead,(Qqv x17)] (Q0m (n:=34) (m:=1) (xs:=(x17.2.2.2.2:List Int).map Qav) (l':=[(1,(Qio p1)),(3,.ref 0 2 0 0),(8,(Qmg y3)),(10,(Qd9 x9)),(11,.ref 4 7 0 0),(12,I x17.1),(13,(Qm0 p2)),(14,(I ((p2.length:Int)))),(15,I y4),(16,(B ((decide (y4<(p2.length:Int)))))),(17,(.dptr (Qaf (x9)) 0)),(18,(Qd9 x9)),(19,(.tup [.ref 4 7 0 0,I x17.1])),(20,(Qoo p0)),(21,(Qio p1)),(22,(Qd9 x9)),(23,(.tup [.ref 4 7 0 0,I x17.1])),(24,.ref 4 7 0 0),(25,I x17.1),(26,I x17.1),(27,(B ((decide (x17.1≥0)))))]) (own':=[(Qop p0),.tok,Qn5,(.own 1 [[I x17.1]]),(.own 7 [[(Qqi p0),(Qqh p0),(Qqu x17 p0),(Qvp x17 p0),(.dat 1 ((x17.2.2.2.2.take p1.length:List Int).map Qav)),(Qd9 x9),I x17.2.1]]),.dead,.dead,.dead]) 7 [(1,(Qio p1)),(3,.ref 0 2 0 0),(8,(Qmg y3)),(10,(Qd9 x9)),(11,.ref 4 7 0 0),(12,I x17.1),(13,(Qm0 p2)),(14,(I ((p2.length:Int)))),(15,I y4),(16,(B ((decide (y4<(p2.length:Int)))))),(17,(.dptr (Qaf (x9)) 0)),(18,(Qd9 x9)),(19,(.tup [.ref 4 7 0 0,I x17.1])),(20,(Qoo p0)),(21,(Qio p1)),(22,(Qd9 x9)),(23,(.tup [.ref 4 7 0 0,I x17.1])),(24,.ref 4 7 0 0),(25,I x17.1),(26,I x17.1),(27,(B ((decide (x17.1≥0)))))] (by kernel_rfl) (by kernel_rfl) (by kernel_rfl) ⟨rfl,(.same _),rfl,(.same _),rfl,(.same _),rfl,(.same _),rfl,(.same _),rfl,(.same _),rfl,(.same _),rfl,(.same _),rfl,(.same _),rfl,(.same _),rfl,(.same _),rfl,(.same _),rfl,(.same _),rfl,(.same _),rfl,(.same _),rfl,(.same _),rfl,(.same _),rfl,(.same _),rfl,(.same _),rfl,(.same _),rfl,(.same _),tv⟩ (qc Qd7 (qc Qd7 (qc Qd7 (qc Qd7 (qc (Qur (lc (.same _) (lc (.same _) (lc (.same _) (lc (.same _) (lc (Qof hz21) (lc (.same _) (lc (.same _) ln)))))))) (qc Qd7 (qc Qd7 (qc .dead qn)))))))))) ?_
      refine wmr (Q0l [(Qop p0),.tok,Qn5,(.own 1 [[I x17.1]]),(.own 7 [[(Qqi p0),(Qqh p0),(Qqu x17 p0),(Qvp x17 p0),(.dat 1 ((x17.2.2.2.2.take p1.length:List Int).map Qav)),(Qd9 x9),I x17.2.1]]),.dead,.dead,.dead] (Q0m (n:=34) (m:=7) (xs:=[[(Qqi p0),(Qqh p0),(Qqu x17 p0),(Qvp x17 p0),(.dat 1 ((x17.2.2.2.2.take p1.length:List Int).map Qav)),(Qd9 x9),I x17.2.1]]) (l':=[(1,(Qio p1)),(3,.ref 0 2 0 0),(8,(Qmg y3)),(10,(Qd9 x9)),(11,(.dptr (Qdk ((⟨p0,(⟨x17.2.2.1.take ((p0.Elements.length:Int).toNat),x17.2.2.2.1.take ((p0.Elements.length:Int).toNat),x17.2.2.2.2.take p1.length⟩:Qhw),x9,x17.2.1⟩:Qbt))) 0)),(12,I x17.1),(13,(Qm0 p2)),(14,(I ((p2.length:Int)))),(15,I y4),(16,(B ((decide (y4<(p2.length:Int)))))),(17,(.dptr (Qaf (x9)) 0)),(18,(Qd9 x9)),(19,.any),(20,(Qoo p0)),(21,(Qio p1)),(22,(Qd9 x9)),(23,.any),(24,(.dptr (Qdk ((⟨p0,(⟨x17.2.2.1.take ((p0.Elements.length:Int).toNat),x17.2.2.2.1.take ((p0.Elements.length:Int).toNat),x17.2.2.2.2.take p1.length⟩:Qhw),x9,x17.2.1⟩:Qbt))) 0)),(25,I x17.1),(26,I x17.1),(27,(B ((decide (x17.1≥0)))))]) (own':=[(Qop p0),.tok,(.own 1 [[(.dptr (Qdk ((⟨p0,(⟨x17.2.2.1.take ((p0.Elements.length:Int).toNat),x17.2.2.2.1.take ((p0.Elements.length:Int).toNat),x17.2.2.2.2.take p1.length⟩:Qhw),x9,x17.2.1⟩:Qbt))) 0)]]),(.own 1 [[I x17.1]]),.dead,.dead,.dead,.dead]) 4 [(1,(Qio p1)),(3,.ref 0 2 0 0),(8,(Qmg y3)),(10,(Qd9 x9)),(11,.ref 4 7 0 0),(12,I x17.1),(13,(Qm0 p2)),(14,(I ((p2.length:Int)))),(15,I y4),(16,(B ((decide (y4<(p2.length:Int)))))),(17,(.dptr (Qaf (x9)) 0)),(18,(Qd9 x9)),(19,(.tup [.ref 4 7 0 0,I x17.1])),(20,(Qoo p0)),(21,(Qio p1)),(22,(Qd9 x9)),(23,(.tup [.ref 4 7 0 0,I x17.1])),(24,.ref 4 7 0 0),(25,I x17.1),(26,I x17.1),(27,(B ((decide (x17.1≥0)))))] (by kernel_rfl) (by kernel_rfl) (by kernel_rfl) ⟨rfl,(.same _),rfl,(.same _),rfl,(.same _),rfl,(.same _),rfl,(.ptr _ _ rfl),rfl,(.same _),rfl,(.same _),rfl,(.same _),rfl,(.same _),rfl,(.same _),rfl,(.same _),rfl,(.same _),rfl,(.any _),rfl,(.same _),rfl,(.same _),rfl,(.same _),rfl,(.any _),rfl,(.ptr _ _ rfl),rfl,(.same _),rfl,(.same _),rfl,(.same _),tv⟩ (qc Qd7 (qc Qd7 (qc (Qur (lc (.ptr _ _ rfl) ln)) (qc Qd7 (qc .dead (qc Qd7 (qc Qd7 (qc Qd7 qn)))))))))) ?_
      obtain⟨ha22,h⟩:=cko h
      refine wx1 tbk [(2,rp [(.tmp 29,(.dptr (Qdk ((⟨p0,(⟨x17.2.2.1.take ((p0.Elements.length:Int).toNat),x17.2.2.2.1.take ((p0.Elements.length:Int).toNat),x17.2.2.2.2.take p1.length⟩:Qhw),x9,x17.2.1⟩:Qbt))) 0))] (Zeq p0 x17 p1 x9)),(3,⟨[(.tmp 28,(Qmg y3)),(.tmp 30,(Zeq p0 x17 p1 x9))],[(1,.tok),(8,.unused)],(Zep y3 p0 x17 p1 x9),[(1,.dead),(8,.tok)],false⟩)] ⟨Qb7 (vs:=[(.dptr (Qdk ((⟨p0,(⟨x17.2.2.1.take ((p0.Elements.length:Int).toNat),x17.2.2.2.1.take ((p0.Elements.length:Int).toNat),x17.2.2.2.2.take p1.length⟩:Qhw),x9,x17.2.1⟩:Qbt))) 0)]) rfl underlying168 Qkp Zul rfl (by decide) rfl (by decide) (by rfl) (by rfl) (by rfl) rfl,Qhc rfl underlying168 Zwf (Base.acc _ _) rfl rfl (by rfl) (Qko Qbe ha22) (Qkn Qbe ha22 (by decide)) (Qkm Qbe) rfl rfl,tv⟩<|bln<|thn<|wxz1<|thn ?_
      exact arm (mto (n:=34) [(1,(Qio p1)),(3,.ref 0 2 0 0),(8,(Zep y3 p0 x17 p1 x9)),(13,(Qm0 p2)),(14,(I ((p2.length:Int)))),(15,(I (w64 (y4+1))))] [0,8] [(Qop p0),.tok] hφ0 (pc (rnd Qaj) (prr (pc (.rn (Qdb rfl (Qcb Qb1 _))) (pc (rnd Qag) (pw (pw pn)))))) (qb (lc (rnd Qan) (lc (rnd Qab) ln)) (qc .tok qn))) (ih (y3++([(⟨p0,(⟨x17.2.2.1.take ((p0.Elements.length:Int).toNat),x17.2.2.2.1.take ((p0.Elements.length:Int).toNat),x17.2.2.2.2.take p1.length⟩:Qhw),x9,x17.2.1⟩:Qbt)]),w64 (y4+1)) h)
   ·exact wfn hc8<|Qbl<|Qax<|Qax<|Qbk rfl<|thn<|⟨(y3),h,(mto (n:=34) [(8,(Qmg y3))] [1] [.tok] hφ0 (pc (.rn (Qdb rfl (Qcb Qb1 _))) pn) (qc .tok qn))⟩
def Qnj (_N:Nat) (p0:Qaa):Option Int:=
  some p0.Mass
theorem Qtk (N:Nat) (p0:Qaa) (r:Int) (h:Qnj N p0=some r):Spec prog 82 [(.agg (Qae p0))] [] (I r) []:=by
  refine Qal func82 rfl 0 (nle rfl) (fun X φ0 w0 hφ0 hd0=>?_)
  unfold Qnj at h
  refine wxz<|wxz<|Qah ?_
  obtain rfl:=osi h
  exact fend ⟨[I p0.Mass],⟨rot,tv⟩,rfl⟩ nll
def Qeo (N:Nat) (p0:Qbt) (p1:Int) (p2:Int):Option Int:=
  (getI p0.Tick.Out p1).bind fun x2=>
  (getI x2 p2).bind fun x6=>
  (Qnj N x6).bind fun x11=>
  some x11
def Q8c:Slot:=.own 1 [[(.fn (.func 82) [] [])]]
def Zt7 (x6:Qaa):AV:=.agg [(I (x6.Mass)),(I (x6.Heat)),(I (x6.Silica)),(I (x6.Gas))]
theorem Qg9 (N:Nat) (p0:Qbt) (p1:Int) (p2:Int) (r:Int) (h:Qeo N p0 p1 p2=some r):Spec prog 81 [(.dptr (Qdk (p0)) 0),(.ref 0 1 (0) 0),(.ref 1 2 (0) 0)] [Q8c,(.own 2 [[(I (p1)),(I (p2))]])] (I (r)) [Q8c,(.own 2 [[(I (p1)),(I (p2))]])]:=by
  refine Qal func81 rfl 2 (nle rfl) (fun X φ0 w0 hφ0 hd0=>?_)
  unfold Qeo at h
  refine Qbv<|wxz ?_
  obtain⟨x2,hg3,h⟩:=bno h
  obtain⟨hi4,hj5⟩:=gsm hg3
  obtain⟨x6,hg7,h⟩:=bno h
  obtain⟨hi8,hj9⟩:=gsm hg7
  obtain⟨x11,hf10,h⟩:=bno h
  refine wxd tbk [(8,rp [(.tmp 10,(.dat 1 ((p0.Tick.Out:List (List Qaa)).map Qaf))),(.tmp 12,I p1)] (.dptr (Qaf (x2)) 0)),(12,rp [(.tmp 14,(.dat 4 ((x2:List Qaa).map Qae))),(.tmp 16,I p2)] (.dptr (Qae (x6)) 0)),(14,rp [(.tmp 5,(.fn (.func 82) [] [])),(.tmp 18,(Zt7 x6))] (I x11))] ⟨aid rfl underlying31 ti45 rfl rfl hi4 (mgt Qaf hj5) rfl,aid rfl underlying45 ti63 rfl rfl hi8 (mgt Qae hj9) rfl,apv Zr4 (Qtk N x6 _ hf10) (nlc (NLt.agg _ (nlcc (nlcc nl0))) nl0) nll,tv⟩ ?_
  refine wmr (mto (n:=20) (l':=[(4,I x11)]) (own':=[Q8c,(.own 2 [[I p1,I p2]])]) [(4,I x11)] [0,1] [Q8c,(.own 2 [[I p1,I p2]])] hφ0 (pw pn) (qb (lc (.rn (Qbj rn0 rn0)) ln) (qb (lcc ln) qn)))<|Qah ?_
  obtain rfl:=osi h
  exact⟨_,Mor.rfl,Qdh (vs:=[I x11]) ⟨rot,tv⟩ rfl (NLt.of0 nll) (by kernel_rfl) (Qar (Qa4 (nlc (NLt.of0 (NLt.fn _ _ _ nl0 nl0)) nl0)) (Qar (Qa4 (nlc (NLt.of0 nll) (nlc (NLt.of0 nll) nl0))) Qbx))⟩
def Qcw (N:Nat) (p0:(List Qbt)) (p1:Int) (p2:Int) (k14:Int×Int→Option Qbo):Nat→Int→Int→Int→Option Qbo
  |0,_,_,_=>none
  |n22+1,y16,y17,y18=>
    bif (decide (y16<((p0.drop (1:Int).toNat).length:Int))) then
     (getI (p0.drop (1:Int).toNat) y16).bind fun x24=>
     (Qeo N x24 p1 p2).bind fun x29=>
     (Qeo N x24 p1 p2).bind fun x31=>
     Qcw N p0 p1 p2 k14 n22 (w64 (y16+1)) (if x29<y17 then x29 else y17) (if x31>y18 then x31 else y18)
    else
     k14 (y17,y18)
def Qgq (N:Nat) (p0:(List Qbt)) (p1:Int) (p2:Int):Option Qbo:=
  (getI p0 0).bind fun x4=>
  (Qeo N x4 p1 p2).bind fun x9=>
  (Qeo N x4 p1 p2).bind fun x11=>
  Qbn (fun ⟨y12,y13⟩=>
    some (⟨y12,y13⟩:Qbo)) fun k14:Int×Int→Option Qbo=>
  chk (decide (0≤1)&&decide (1≤(p0.length:Int))&&decide ((p0.length:Int)≤(p0.length:Int)))<|
  Qcw N p0 p1 p2 k14 N 0 x9 x11
def Q8d (p0:(List Qbt)):AV:=.dat 1 ((p0:List Qbt).map Qbe)
def Qrp:AV:=.fn (.func 81) [] [(.ref 0 1 (0) 0),(.ref 1 2 (0) 0)]
def Qh6:Slot:=.own 1 [[(.fn (.func 82) [] [])]]
def Qh5 (p1:Int) (p2:Int):Slot:=.own 2 [[(I (p1)),(I (p2))]]
def Qyl:Slot:=.own 2 [[(I (0)),(I (0))]]
def Qvo (p0:(List Qbt)):AV:=.dat 1 ((p0.drop (1:Int).toNat:List Qbt).map Qbe)
theorem Qnf (N:Nat) (p0:(List Qbt)) (p1:Int) (p2:Int) (r:Qbo) (h:Qgq N p0 p1 p2=some r):Spec prog 80 [(Q8d p0),Qrp] [Qh6,(Qh5 p1 p2)] (.agg [(I (r.Lo)),(I (r.Hi))]) [Qh6,(Qh5 p1 p2),(.own 2 [[(I (r.Lo)),(I (r.Hi))]])]:=by
  refine Qal func80 rfl 3 (nle rfl) (fun X φ0 w0 hφ0 hd0=>?_)
  unfold Qgq at h
  refine Qbv<|wxz ?_
  obtain⟨x4,hg5,h⟩:=bno h
  obtain⟨hi6,hj7⟩:=gsm hg5
  obtain⟨x9,hf8,h⟩:=bno h
  obtain⟨x11,hf10,h⟩:=bno h
  refine wxd tbk [(2,rp [(.tmp 9,(Q8d p0)),ci 0] (.dptr (Qbe (x4)) 0)),(4,⟨[(.tmp 8,Qrp),(.tmp 11,(.dptr (Qdk (x4)) 0))],[(0,Qh6),(1,(Qh5 p1 p2))],I x9,[(0,Qh6),(1,(Qh5 p1 p2))],false⟩),(7,rp [(.tmp 14,(Q8d p0)),ci 0] (.dptr (Qbe (x4)) 0)),(9,⟨[(.tmp 13,Qrp),(.tmp 16,(.dptr (Qdk (x4)) 0))],[(0,Qh6),(1,(Qh5 p1 p2))],I x11,[(0,Qh6),(1,(Qh5 p1 p2))],false⟩),(10,rp [(.tmp 12,I x9),(.tmp 17,I x11)] (.agg [I x9,I x11]))] ⟨aid rfl underlying168 Qkp rfl rfl hi6 (mgt Qbe hj7) rfl,Qau (first:=[]) (cap:=[.ref 0 1 0 0,.ref 1 2 0 0]) (vs:=[(.dptr (Qdk (x4)) 0)]) (σr:=[Qh6,(Qh5 p1 p2)]) (σr':=[Qh6,(Qh5 p1 p2)]) (res':=(I x9)) [0,1] rfl Qi9 (Qg9 N x4 p1 p2 _ hf8) rfl (Qbp (rnc (.plain _ (NLt.dptr _ _ (Qha _))) (rnc (Qa0 rfl) (rnc (Qa0 rfl) rn0)))) (slc (Qam (rnc (.plain _ (NLt.fn _ _ _ nl0 nl0)) rn0)) (slc (Qam (rncc rn0)) Qat)) (slc (Qam (rnc (.plain _ (NLt.fn _ _ _ nl0 nl0)) rn0)) (slc (Qam (rncc rn0)) Qat)) (.plain _ nll) rfl rfl rfl,aid rfl underlying168 Qkp rfl rfl hi6 (mgt Qbe hj7) rfl,Qau (first:=[]) (cap:=[.ref 0 1 0 0,.ref 1 2 0 0]) (vs:=[(.dptr (Qdk (x4)) 0)]) (σr:=[Qh6,(Qh5 p1 p2)]) (σr':=[Qh6,(Qh5 p1 p2)]) (res':=(I x11)) [0,1] rfl Qi9 (Qg9 N x4 p1 p2 _ hf10) rfl (Qbp (rnc (.plain _ (NLt.dptr _ _ (Qha _))) (rnc (Qa0 rfl) (rnc (Qa0 rfl) rn0)))) (slc (Qam (rnc (.plain _ (NLt.fn _ _ _ nl0 nl0)) rn0)) (slc (Qam (rncc rn0)) Qat)) (slc (Qam (rnc (.plain _ (NLt.fn _ _ _ nl0 nl0)) rn0)) (slc (Qam (rncc rn0)) Qat)) (.plain _ nll) rfl rfl rfl,Qa8 (vs:=[I x9,I x11]) rfl Q2k Qz3 rfl (by rfl) rfl,tv⟩ ?_
  obtain⟨k14,hk_k14,h⟩:=jko h
  refine wjn (τ:=Int×Int) (fun t=>k14 t=some r) (fun ⟨y12,y13⟩=>⟨mk 41 [(4,.ref 2 2 0 0),(5,.ref 3 2 0 0)],[Qh6,(Qh5 p1 p2),Qyl,(.own 2 [[I y12,I y13]])]⟩) (fun t h=>?_) ?_
  ·subst hk_k14
   obtain⟨y12,y13⟩:=t
   refine wxz<|wmr (mto (n:=41) (l':=[(4,.ref 2 2 0 0)]) (own':=[Qh6,(Qh5 p1 p2),(.own 2 [[(I (((⟨y12,y13⟩:Qbo).Lo))),(I (((⟨y12,y13⟩:Qbo).Hi)))]])]) [(4,.ref 2 2 0 0)] [0,1,2] [Qh6,(Qh5 p1 p2),(.own 2 [[I y12,I y13]])] hφ0 (prr pn) (qb (lc (.rn (Qbj rn0 rn0)) ln) (qb (lcc ln) (qb (lcc ln) qn))))<|Qah ?_
   obtain rfl:=osi h
   exact⟨_,Mor.rfl,Qdh (vs:=[(.agg [(I ((⟨y12,y13⟩:Qbo).Lo)),(I ((⟨y12,y13⟩:Qbo).Hi))])]) ⟨Qb2 (n:=2) (m:=2) (j:=0) (i:=0) (xs:=[[(I ((⟨y12,y13⟩:Qbo).Lo)),(I ((⟨y12,y13⟩:Qbo).Hi))]]) (by kernel_rfl) (by kernel_rfl) Qo7 (by decide) rfl (nle rfl) rfl,tv⟩ rfl (NLt.of0 (NLt.agg _ (nlcc nl0))) (by kernel_rfl) (Qar (Qa4 (nlc (NLt.of0 (NLt.fn _ _ _ nl0 nl0)) nl0)) (Qar (Qa4 (nlc (NLt.of0 nll) (nlc (NLt.of0 nll) nl0))) (Qar (Qa4 (nlc (NLt.of0 nll) (nlc (NLt.of0 nll) nl0))) Qbx)))⟩
  ·skip
   obtain⟨hs15,h⟩:=cko h
   refine wx tbk [(1,rp [(.tmp 19,(Q8d p0)),ci 1] (Qvo p0)),(2,rp [(.tmp 20,(Qvo p0))] (I (((p0.drop (1:Int).toNat).length:Int))))] ⟨Qjx (k:=.i64) (k':=.i64) (lo:=some (.const (.int .i64 1))) (hi:=none) (l:=1) (hh:=((p0.length:Nat):Int)) rfl underlying168 Qkp rfl (fun e=>nomatch e) (fun _=>by simp) (Qx7 hs15) (Qx6 hs15) (Zb3 (Qbe) hs15) (Zfr Qbe),alm (c:=Qbe) (l:=p0.drop (1:Int).toNat) (aln rfl underlying168 rfl),tv⟩<|Qao ?_
   refine wmr (mto (n:=41) (l':=[(1,Qrp),(4,.ref 2 2 0 0),(5,.ref 3 2 0 0),(20,(Qvo p0)),(21,(I (((p0.drop (1:Int).toNat).length:Int)))),(22,I 0)]) (own':=[Qh6,(Qh5 p1 p2),Qyl,(.own 2 [[I x9,I x11]])]) [(1,Qrp),(4,.ref 2 2 0 0),(5,.ref 3 2 0 0),(20,(Qvo p0)),(21,(I (((p0.drop (1:Int).toNat).length:Int)))),(22,I 0)] [0,1,2,3] [Qh6,(Qh5 p1 p2),Qyl,(.own 2 [[I x9,I x11]])] hφ0 (pc (.rn (Qbj rn0 (rnc (rqr rfl) (rnc (rqr rfl) rn0)))) (prr (prr (pc (rnd Qb1) (pw (pw pn)))))) (qb (lc (.rn (Qbj rn0 rn0)) ln) (qb (lcc ln) (qb (lcc ln) (qb (lcc ln) qn))))) ?_
   refine Qb3 (τ:=Int×Int×Int) (fun n t=>Qcw N p0 p1 p2 k14 n t.1 t.2.1 t.2.2=some r) (fun ⟨y16,y17,y18⟩=>⟨mk 41 [(1,Qrp),(4,.ref 2 2 0 0),(5,.ref 3 2 0 0),(20,(Qvo p0)),(21,(I (((p0.drop (1:Int).toNat).length:Int)))),(22,I y16)],[Qh6,(Qh5 p1 p2),Qyl,(.own 2 [[I y17,I y18]])]⟩) (fun t h=>by rw[Qcw] at h;cases h) (fun n22 ih t h=>?_) N (0,x9,x11) h
   obtain⟨y16,y17,y18⟩:=t
   rw[Qcw] at h
   skip
   refine wxz<|wsq ?_
   refine bfe h (fun hc23 h=>?_) fun hc23 h=>?_
   ·refine wft hc23<|Qap<|thn<|wsq<|Qao ?_
    obtain⟨x24,hg25,h⟩:=bno h
    obtain⟨hi26,hj27⟩:=gsm hg25
    refine wx tbk [(0,rp [(.tmp 20,(Qvo p0)),(.tmp 22,I y16)] (.dptr (Qbe (x24)) 0))] ⟨aid rfl underlying168 Qkp rfl rfl hi26 (mgt Qbe hj27) rfl,tv⟩ ?_
    obtain⟨x29,hf28,h⟩:=bno h
    obtain⟨x31,hf30,h⟩:=bno h
    refine wy1 tbk [(4,⟨[(.tmp 28,Qrp),(.tmp 29,(.dptr (Qdk (x24)) 0))],[(0,Qh6),(1,(Qh5 p1 p2))],I x29,[(0,Qh6),(1,(Qh5 p1 p2))],false⟩),(5,rp [(.tmp 27,I y17),(.tmp 30,I x29)] (I ((if x29<y17 then x29 else y17)))),(10,⟨[(.tmp 34,Qrp),(.tmp 35,(.dptr (Qdk (x24)) 0))],[(0,Qh6),(1,(Qh5 p1 p2))],I x31,[(0,Qh6),(1,(Qh5 p1 p2))],false⟩),(11,rp [(.tmp 33,I y18),(.tmp 36,I x31)] (I ((if x31>y18 then x31 else y18)))),(12,rp [(.tmp 31,(I ((if x29<y17 then x29 else y17)))),(.tmp 37,(I ((if x31>y18 then x31 else y18))))] (.agg [(I ((if x29<y17 then x29 else y17))),(I ((if x31>y18 then x31 else y18)))]))] ⟨Qau (first:=[]) (cap:=[.ref 0 1 0 0,.ref 1 2 0 0]) (vs:=[(.dptr (Qdk (x24)) 0)]) (σr:=[Qh6,(Qh5 p1 p2)]) (σr':=[Qh6,(Qh5 p1 p2)]) (res':=(I x29)) [0,1] rfl Qi9 (Qg9 N x24 p1 p2 _ hf28) rfl (Qbp (rnc (.plain _ (NLt.dptr _ _ (Qha _))) (rnc (Qa0 rfl) (rnc (Qa0 rfl) rn0)))) (slc (Qam (rnc (.plain _ (NLt.fn _ _ _ nl0 nl0)) rn0)) (slc (Qam (rncc rn0)) Qat)) (slc (Qam (rnc (.plain _ (NLt.fn _ _ _ nl0 nl0)) rn0)) (slc (Qam (rncc rn0)) Qat)) (.plain _ nll) rfl rfl rfl,Qmu rfl,Qau (first:=[]) (cap:=[.ref 0 1 0 0,.ref 1 2 0 0]) (vs:=[(.dptr (Qdk (x24)) 0)]) (σr:=[Qh6,(Qh5 p1 p2)]) (σr':=[Qh6,(Qh5 p1 p2)]) (res':=(I x31)) [0,1] rfl Qi9 (Qg9 N x24 p1 p2 _ hf30) rfl (Qbp (rnc (.plain _ (NLt.dptr _ _ (Qha _))) (rnc (Qa0 rfl) (rnc (Qa0 rfl) rn0)))) (slc (Qam (rnc (.plain _ (NLt.fn _ _ _ nl0 nl0)) rn0)) (slc (Qam (rncc rn0)) Qat)) (slc (Qam (rnc (.plain _ (NLt.fn _ _ _ nl0 nl0)) rn0)) (slc (Qam (rncc rn0)) Qat)) (.plain _ nll) rfl rfl rfl,Qlw rfl,Qa8 (vs:=[(I ((if x29<y17 then x29 else y17))),(I ((if x31>y18 then x31 else y18)))]) rfl Q2k Qz3 rfl (by rfl) rfl,tv⟩<|bln<|thn<|wxz1<|thn ?_
    exact arm (mto (n:=41) [(1,Qrp),(4,.ref 2 2 0 0),(5,.ref 3 2 0 0),(20,(Qvo p0)),(21,(I (((p0.drop (1:Int).toNat).length:Int)))),(22,(I (w64 (y16+1))))] [0,1,2,3] [Qh6,(Qh5 p1 p2),Qyl,(.own 2 [[(I ((if x29<y17 then x29 else y17))),(I ((if x31>y18 then x31 else y18)))]])] hφ0 (pc (.rn (Qbj rn0 (rnc (rqr rfl) (rnc (rqr rfl) rn0)))) (prr (prr (pc (rnd Qb1) (pw (pw pn)))))) (qb (lc (.rn (Qbj rn0 rn0)) ln) (qb (lcc ln) (qb (lcc ln) (qb (lcc ln) qn))))) (ih (w64 (y16+1),(if x29<y17 then x29 else y17),(if x31>y18 then x31 else y18)) h)
   ·exact wfn hc23<|Qbl<|Qax<|Qax<|Qbk rfl<|thn<|⟨(y17,y18),h,(mto (n:=41) [(4,.ref 2 2 0 0),(5,.ref 3 2 0 0)] [0,1,2,3] [Qh6,(Qh5 p1 p2),Qyl,(.own 2 [[I y17,I y18]])] hφ0 (prr (prr pn)) (qb (lc (.rn (Qbj rn0 rn0)) ln) (qb (lcc ln) (qb (lcc ln) (qb (lcc ln) qn)))))⟩
def Qii (N:Nat) (p0:(List Qbt)) (p1:Int) (p2:Int):Option Qbo:=
  (Qgq N p0 p1 p2).bind fun x5=>
  some x5
def Qym (p0:(List Qbt)):AV:=.dat 1 ((p0:List Qbt).map Qbe)
def Qt1 (p1:Int) (p2:Int):Slot:=.own 2 [[(I (p1)),(I (p2))]]
def Zen:AV:=.fn (.func 81) [] [(.ref 2 1 (0) 0),(.ref 1 2 (0) 0)]
def Q8f:Slot:=.own 1 [[(.fn (.func 82) [] [])]]
def Zem (x5:Qbo):AV:=.agg [(I (x5.Lo)),(I (x5.Hi))]
def Q8e (x5:Qbo):Slot:=.own 2 [[(I (x5.Lo)),(I (x5.Hi))]]
theorem Qq6 (N:Nat) (p0:(List Qbt)) (p1:Int) (p2:Int) (r:Qbo) (h:Qii N p0 p1 p2=some r):Spec prog 79 [(.fn (.func 82) [] []),(.ref 0 1 (0) 0),(.ref 1 2 (0) 0)] [(.own 1 [[(Qym p0)]]),(Qt1 p1 p2)] (.agg [(I (r.Lo)),(I (r.Hi))]) [(.own 1 [[(Qym p0)]]),(Qt1 p1 p2),(.own 2 [[(I (r.Lo)),(I (r.Hi))]])]:=by
  refine Qal func79 rfl 3 (nle rfl) (fun X φ0 w0 hφ0 hd0=>?_)
  unfold Qii at h
  refine Qbv<|wxz ?_
  obtain⟨x5,hf4,h⟩:=bno h
  refine wx tbk [(1,rp [(.tmp 3,.ref 2 1 0 0),(.tmp 2,.ref 1 2 0 0)] Zen),(2,⟨[fu 80,(.tmp 5,(Qym p0)),(.tmp 6,Zen)],[(2,Q8f),(1,(Qt1 p1 p2)),(4,.unused)],(Zem x5),[(2,Q8f),(1,(Qt1 p1 p2)),(4,(Q8e x5))],false⟩)] ⟨Qe2 (fs:=[]) (cs:=[.ref 2 1 0 0,.ref 1 2 0 0]) rfl rfl rfl rfl,Qau (first:=[]) (cap:=[]) (vs:=[(Qym p0),Zen]) (σr:=[Q8f,(Qt1 p1 p2)]) (σr':=[Q8f,(Qt1 p1 p2),(Q8e x5)]) (res':=(Zem x5)) [2,1,4] rfl Q0w (Qnf N p0 p1 p2 _ hf4) rfl (Qbp (rnc (pld Qb1) (rnc (Qbj rn0 (rnc (Qa0 rfl) (rnc (Qa0 rfl) rn0))) rn0))) (slc (Qam (rnc (.plain _ (NLt.fn _ _ _ nl0 nl0)) rn0)) (slc (Qam (rncc rn0)) Qat)) (slc (Qam (rnc (.plain _ (NLt.fn _ _ _ nl0 nl0)) rn0)) (slc (Qam (rncc rn0)) (slc (Qam (rncc rn0)) Qat))) (.plain _ (NLt.agg _ (nlcc nl0))) rfl rfl rfl,tv⟩ ?_
  refine wmr (mto (n:=8) (l':=[(4,.ref 2 2 0 0)]) (own':=[(.own 1 [[(Qym p0)]]),(Qt1 p1 p2),(Q8e x5)]) [(4,.ref 3 2 0 0)] [0,1,3] [(.own 1 [[(Qym p0)]]),(Qt1 p1 p2),(Q8e x5)] hφ0 (prr pn) (qb (lc (rnd Qb1) ln) (qb (lcc ln) (qb (lcc ln) qn))))<|Qah ?_
  obtain rfl:=osi h
  exact⟨_,Mor.rfl,Qdh (vs:=[(Zem x5)]) ⟨Qb2 (n:=2) (m:=2) (j:=0) (i:=0) (xs:=[[I x5.Lo,I x5.Hi]]) (by kernel_rfl) (by kernel_rfl) Qo7 (by decide) rfl (nle rfl) rfl,tv⟩ rfl (NLt.of0 (NLt.agg _ (nlcc nl0))) (by kernel_rfl) (Qar (Qa4 (nlc (NLt.of0 (nld Qb1 _)) nl0)) (Qar (Qa4 (nlc (NLt.of0 nll) (nlc (NLt.of0 nll) nl0))) (Qar (Qa4 (nlc (NLt.of0 nll) (nlc (NLt.of0 nll) nl0))) Qbx)))⟩
def Qni (_N:Nat) (p0:Qaa):Option Int:=
  some p0.Heat
theorem Qtj (N:Nat) (p0:Qaa) (r:Int) (h:Qni N p0=some r):Spec prog 83 [(.agg (Qae p0))] [] (I r) []:=by
  refine Qal func83 rfl 0 (nle rfl) (fun X φ0 w0 hφ0 hd0=>?_)
  unfold Qni at h
  refine wxz<|wxz<|Qah ?_
  obtain rfl:=osi h
  exact fend ⟨[I p0.Heat],⟨rot,tv⟩,rfl⟩ nll
def Qen (N:Nat) (p0:Qbt) (p1:Int) (p2:Int):Option Int:=
  (getI p0.Tick.Out p1).bind fun x2=>
  (getI x2 p2).bind fun x6=>
  (Qni N x6).bind fun x11=>
  some x11
def Q78:Slot:=.own 1 [[(.fn (.func 83) [] [])]]
def Zt6 (x6:Qaa):AV:=.agg [(I (x6.Mass)),(I (x6.Heat)),(I (x6.Silica)),(I (x6.Gas))]
theorem Qg8 (N:Nat) (p0:Qbt) (p1:Int) (p2:Int) (r:Int) (h:Qen N p0 p1 p2=some r):Spec prog 81 [(.dptr (Qdk (p0)) 0),(.ref 0 1 (0) 0),(.ref 1 2 (0) 0)] [Q78,(.own 2 [[(I (p1)),(I (p2))]])] (I (r)) [Q78,(.own 2 [[(I (p1)),(I (p2))]])]:=by
  refine Qal func81 rfl 2 (nle rfl) (fun X φ0 w0 hφ0 hd0=>?_)
  unfold Qen at h
  refine Qbv<|wxz ?_
  obtain⟨x2,hg3,h⟩:=bno h
  obtain⟨hi4,hj5⟩:=gsm hg3
  obtain⟨x6,hg7,h⟩:=bno h
  obtain⟨hi8,hj9⟩:=gsm hg7
  obtain⟨x11,hf10,h⟩:=bno h
  refine wxd tbk [(8,rp [(.tmp 10,(.dat 1 ((p0.Tick.Out:List (List Qaa)).map Qaf))),(.tmp 12,I p1)] (.dptr (Qaf (x2)) 0)),(12,rp [(.tmp 14,(.dat 4 ((x2:List Qaa).map Qae))),(.tmp 16,I p2)] (.dptr (Qae (x6)) 0)),(14,rp [(.tmp 5,(.fn (.func 83) [] [])),(.tmp 18,(Zt6 x6))] (I x11))] ⟨aid rfl underlying31 ti45 rfl rfl hi4 (mgt Qaf hj5) rfl,aid rfl underlying45 ti63 rfl rfl hi8 (mgt Qae hj9) rfl,apv Zr3 (Qtj N x6 _ hf10) (nlc (NLt.agg _ (nlcc (nlcc nl0))) nl0) nll,tv⟩ ?_
  refine wmr (mto (n:=20) (l':=[(4,I x11)]) (own':=[Q78,(.own 2 [[I p1,I p2]])]) [(4,I x11)] [0,1] [Q78,(.own 2 [[I p1,I p2]])] hφ0 (pw pn) (qb (lc (.rn (Qbj rn0 rn0)) ln) (qb (lcc ln) qn)))<|Qah ?_
  obtain rfl:=osi h
  exact⟨_,Mor.rfl,Qdh (vs:=[I x11]) ⟨rot,tv⟩ rfl (NLt.of0 nll) (by kernel_rfl) (Qar (Qa4 (nlc (NLt.of0 (NLt.fn _ _ _ nl0 nl0)) nl0)) (Qar (Qa4 (nlc (NLt.of0 nll) (nlc (NLt.of0 nll) nl0))) Qbx))⟩
def Qcv (N:Nat) (p0:(List Qbt)) (p1:Int) (p2:Int) (k14:Int×Int→Option Qbo):Nat→Int→Int→Int→Option Qbo
  |0,_,_,_=>none
  |n22+1,y16,y17,y18=>
    bif (decide (y16<((p0.drop (1:Int).toNat).length:Int))) then
     (getI (p0.drop (1:Int).toNat) y16).bind fun x24=>
     (Qen N x24 p1 p2).bind fun x29=>
     (Qen N x24 p1 p2).bind fun x31=>
     Qcv N p0 p1 p2 k14 n22 (w64 (y16+1)) (if x29<y17 then x29 else y17) (if x31>y18 then x31 else y18)
    else
     k14 (y17,y18)
def Qgp (N:Nat) (p0:(List Qbt)) (p1:Int) (p2:Int):Option Qbo:=
  (getI p0 0).bind fun x4=>
  (Qen N x4 p1 p2).bind fun x9=>
  (Qen N x4 p1 p2).bind fun x11=>
  Qbn (fun ⟨y12,y13⟩=>
    some (⟨y12,y13⟩:Qbo)) fun k14:Int×Int→Option Qbo=>
  chk (decide (0≤1)&&decide (1≤(p0.length:Int))&&decide ((p0.length:Int)≤(p0.length:Int)))<|
  Qcv N p0 p1 p2 k14 N 0 x9 x11
def Q79 (p0:(List Qbt)):AV:=.dat 1 ((p0:List Qbt).map Qbe)
def Qro:AV:=.fn (.func 81) [] [(.ref 0 1 (0) 0),(.ref 1 2 (0) 0)]
def Qh4:Slot:=.own 1 [[(.fn (.func 83) [] [])]]
def Qh3 (p1:Int) (p2:Int):Slot:=.own 2 [[(I (p1)),(I (p2))]]
def Qyj:Slot:=.own 2 [[(I (0)),(I (0))]]
def Qvn (p0:(List Qbt)):AV:=.dat 1 ((p0.drop (1:Int).toNat:List Qbt).map Qbe)
theorem Qne (N:Nat) (p0:(List Qbt)) (p1:Int) (p2:Int) (r:Qbo) (h:Qgp N p0 p1 p2=some r):Spec prog 80 [(Q79 p0),Qro] [Qh4,(Qh3 p1 p2)] (.agg [(I (r.Lo)),(I (r.Hi))]) [Qh4,(Qh3 p1 p2),(.own 2 [[(I (r.Lo)),(I (r.Hi))]])]:=by
  refine Qal func80 rfl 3 (nle rfl) (fun X φ0 w0 hφ0 hd0=>?_)
  unfold Qgp at h
  refine Qbv<|wxz ?_
  obtain⟨x4,hg5,h⟩:=bno h
  obtain⟨hi6,hj7⟩:=gsm hg5
  obtain⟨x9,hf8,h⟩:=bno h
  obtain⟨x11,hf10,h⟩:=bno h
  refine wxd tbk [(2,rp [(.tmp 9,(Q79 p0)),ci 0] (.dptr (Qbe (x4)) 0)),(4,⟨[(.tmp 8,Qro),(.tmp 11,(.dptr (Qdk (x4)) 0))],[(0,Qh4),(1,(Qh3 p1 p2))],I x9,[(0,Qh4),(1,(Qh3 p1 p2))],false⟩),(7,rp [(.tmp 14,(Q79 p0)),ci 0] (.dptr (Qbe (x4)) 0)),(9,⟨[(.tmp 13,Qro),(.tmp 16,(.dptr (Qdk (x4)) 0))],[(0,Qh4),(1,(Qh3 p1 p2))],I x11,[(0,Qh4),(1,(Qh3 p1 p2))],false⟩),(10,rp [(.tmp 12,I x9),(.tmp 17,I x11)] (.agg [I x9,I x11]))] ⟨aid rfl underlying168 Qkp rfl rfl hi6 (mgt Qbe hj7) rfl,Qau (first:=[]) (cap:=[.ref 0 1 0 0,.ref 1 2 0 0]) (vs:=[(.dptr (Qdk (x4)) 0)]) (σr:=[Qh4,(Qh3 p1 p2)]) (σr':=[Qh4,(Qh3 p1 p2)]) (res':=(I x9)) [0,1] rfl Qi9 (Qg8 N x4 p1 p2 _ hf8) rfl (Qbp (rnc (.plain _ (NLt.dptr _ _ (Qha _))) (rnc (Qa0 rfl) (rnc (Qa0 rfl) rn0)))) (slc (Qam (rnc (.plain _ (NLt.fn _ _ _ nl0 nl0)) rn0)) (slc (Qam (rncc rn0)) Qat)) (slc (Qam (rnc (.plain _ (NLt.fn _ _ _ nl0 nl0)) rn0)) (slc (Qam (rncc rn0)) Qat)) (.plain _ nll) rfl rfl rfl,aid rfl underlying168 Qkp rfl rfl hi6 (mgt Qbe hj7) rfl,Qau (first:=[]) (cap:=[.ref 0 1 0 0,.ref 1 2 0 0]) (vs:=[(.dptr (Qdk (x4)) 0)]) (σr:=[Qh4,(Qh3 p1 p2)]) (σr':=[Qh4,(Qh3 p1 p2)]) (res':=(I x11)) [0,1] rfl Qi9 (Qg8 N x4 p1 p2 _ hf10) rfl (Qbp (rnc (.plain _ (NLt.dptr _ _ (Qha _))) (rnc (Qa0 rfl) (rnc (Qa0 rfl) rn0)))) (slc (Qam (rnc (.plain _ (NLt.fn _ _ _ nl0 nl0)) rn0)) (slc (Qam (rncc rn0)) Qat)) (slc (Qam (rnc (.plain _ (NLt.fn _ _ _ nl0 nl0)) rn0)) (slc (Qam (rncc rn0)) Qat)) (.plain _ nll) rfl rfl rfl,Qa8 (vs:=[I x9,I x11]) rfl Q2k Qz3 rfl (by rfl) rfl,tv⟩ ?_
  obtain⟨k14,hk_k14,h⟩:=jko h
  refine wjn (τ:=Int×Int) (fun t=>k14 t=some r) (fun ⟨y12,y13⟩=>⟨mk 41 [(4,.ref 2 2 0 0),(5,.ref 3 2 0 0)],[Qh4,(Qh3 p1 p2),Qyj,(.own 2 [[I y12,I y13]])]⟩) (fun t h=>?_) ?_
  ·subst hk_k14
   obtain⟨y12,y13⟩:=t
   refine wxz<|wmr (mto (n:=41) (l':=[(4,.ref 2 2 0 0)]) (own':=[Qh4,(Qh3 p1 p2),(.own 2 [[(I (((⟨y12,y13⟩:Qbo).Lo))),(I (((⟨y12,y13⟩:Qbo).Hi)))]])]) [(4,.ref 2 2 0 0)] [0,1,2] [Qh4,(Qh3 p1 p2),(.own 2 [[I y12,I y13]])] hφ0 (prr pn) (qb (lc (.rn (Qbj rn0 rn0)) ln) (qb (lcc ln) (qb (lcc ln) qn))))<|Qah ?_
   obtain rfl:=osi h
   exact⟨_,Mor.rfl,Qdh (vs:=[(.agg [(I ((⟨y12,y13⟩:Qbo).Lo)),(I ((⟨y12,y13⟩:Qbo).Hi))])]) ⟨Qb2 (n:=2) (m:=2) (j:=0) (i:=0) (xs:=[[(I ((⟨y12,y13⟩:Qbo).Lo)),(I ((⟨y12,y13⟩:Qbo).Hi))]]) (by kernel_rfl) (by kernel_rfl) Qo7 (by decide) rfl (nle rfl) rfl,tv⟩ rfl (NLt.of0 (NLt.agg _ (nlcc nl0))) (by kernel_rfl) (Qar (Qa4 (nlc (NLt.of0 (NLt.fn _ _ _ nl0 nl0)) nl0)) (Qar (Qa4 (nlc (NLt.of0 nll) (nlc (NLt.of0 nll) nl0))) (Qar (Qa4 (nlc (NLt.of0 nll) (nlc (NLt.of0 nll) nl0))) Qbx)))⟩
  ·skip
   obtain⟨hs15,h⟩:=cko h
   refine wx tbk [(1,rp [(.tmp 19,(Q79 p0)),ci 1] (Qvn p0)),(2,rp [(.tmp 20,(Qvn p0))] (I (((p0.drop (1:Int).toNat).length:Int))))] ⟨Qjx (k:=.i64) (k':=.i64) (lo:=some (.const (.int .i64 1))) (hi:=none) (l:=1) (hh:=((p0.length:Nat):Int)) rfl underlying168 Qkp rfl (fun e=>nomatch e) (fun _=>by simp) (Qx7 hs15) (Qx6 hs15) (Zb3 (Qbe) hs15) (Zfr Qbe),alm (c:=Qbe) (l:=p0.drop (1:Int).toNat) (aln rfl underlying168 rfl),tv⟩<|Qao ?_
   refine wmr (mto (n:=41) (l':=[(1,Qro),(4,.ref 2 2 0 0),(5,.ref 3 2 0 0),(20,(Qvn p0)),(21,(I (((p0.drop (1:Int).toNat).length:Int)))),(22,I 0)]) (own':=[Qh4,(Qh3 p1 p2),Qyj,(.own 2 [[I x9,I x11]])]) [(1,Qro),(4,.ref 2 2 0 0),(5,.ref 3 2 0 0),(20,(Qvn p0)),(21,(I (((p0.drop (1:Int).toNat).length:Int)))),(22,I 0)] [0,1,2,3] [Qh4,(Qh3 p1 p2),Qyj,(.own 2 [[I x9,I x11]])] hφ0 (pc (.rn (Qbj rn0 (rnc (rqr rfl) (rnc (rqr rfl) rn0)))) (prr (prr (pc (rnd Qb1) (pw (pw pn)))))) (qb (lc (.rn (Qbj rn0 rn0)) ln) (qb (lcc ln) (qb (lcc ln) (qb (lcc ln) qn))))) ?_
   refine Qb3 (τ:=Int×Int×Int) (fun n t=>Qcv N p0 p1 p2 k14 n t.1 t.2.1 t.2.2=some r) (fun ⟨y16,y17,y18⟩=>⟨mk 41 [(1,Qro),(4,.ref 2 2 0 0),(5,.ref 3 2 0 0),(20,(Qvn p0)),(21,(I (((p0.drop (1:Int).toNat).length:Int)))),(22,I y16)],[Qh4,(Qh3 p1 p2),Qyj,(.own 2 [[I y17,I y18]])]⟩) (fun t h=>by rw[Qcv] at h;cases h) (fun n22 ih t h=>?_) N (0,x9,x11) h
   obtain⟨y16,y17,y18⟩:=t
   rw[Qcv] at h
   skip
   refine wxz<|wsq ?_
   refine bfe h (fun hc23 h=>?_) fun hc23 h=>?_
   ·refine wft hc23<|Qap<|thn<|wsq<|Qao ?_
    obtain⟨x24,hg25,h⟩:=bno h
    obtain⟨hi26,hj27⟩:=gsm hg25
    refine wx tbk [(0,rp [(.tmp 20,(Qvn p0)),(.tmp 22,I y16)] (.dptr (Qbe (x24)) 0))] ⟨aid rfl underlying168 Qkp rfl rfl hi26 (mgt Qbe hj27) rfl,tv⟩ ?_
    obtain⟨x29,hf28,h⟩:=bno h
    obtain⟨x31,hf30,h⟩:=bno h
    refine wy1 tbk [(4,⟨[(.tmp 28,Qro),(.tmp 29,(.dptr (Qdk (x24)) 0))],[(0,Qh4),(1,(Qh3 p1 p2))],I x29,[(0,Qh4),(1,(Qh3 p1 p2))],false⟩),(5,rp [(.tmp 27,I y17),(.tmp 30,I x29)] (I ((if x29<y17 then x29 else y17)))),(10,⟨[(.tmp 34,Qro),(.tmp 35,(.dptr (Qdk (x24)) 0))],[(0,Qh4),(1,(Qh3 p1 p2))],I x31,[(0,Qh4),(1,(Qh3 p1 p2))],false⟩),(11,rp [(.tmp 33,I y18),(.tmp 36,I x31)] (I ((if x31>y18 then x31 else y18)))),(12,rp [(.tmp 31,(I ((if x29<y17 then x29 else y17)))),(.tmp 37,(I ((if x31>y18 then x31 else y18))))] (.agg [(I ((if x29<y17 then x29 else y17))),(I ((if x31>y18 then x31 else y18)))]))] ⟨Qau (first:=[]) (cap:=[.ref 0 1 0 0,.ref 1 2 0 0]) (vs:=[(.dptr (Qdk (x24)) 0)]) (σr:=[Qh4,(Qh3 p1 p2)]) (σr':=[Qh4,(Qh3 p1 p2)]) (res':=(I x29)) [0,1] rfl Qi9 (Qg8 N x24 p1 p2 _ hf28) rfl (Qbp (rnc (.plain _ (NLt.dptr _ _ (Qha _))) (rnc (Qa0 rfl) (rnc (Qa0 rfl) rn0)))) (slc (Qam (rnc (.plain _ (NLt.fn _ _ _ nl0 nl0)) rn0)) (slc (Qam (rncc rn0)) Qat)) (slc (Qam (rnc (.plain _ (NLt.fn _ _ _ nl0 nl0)) rn0)) (slc (Qam (rncc rn0)) Qat)) (.plain _ nll) rfl rfl rfl,Qmu rfl,Qau (first:=[]) (cap:=[.ref 0 1 0 0,.ref 1 2 0 0]) (vs:=[(.dptr (Qdk (x24)) 0)]) (σr:=[Qh4,(Qh3 p1 p2)]) (σr':=[Qh4,(Qh3 p1 p2)]) (res':=(I x31)) [0,1] rfl Qi9 (Qg8 N x24 p1 p2 _ hf30) rfl (Qbp (rnc (.plain _ (NLt.dptr _ _ (Qha _))) (rnc (Qa0 rfl) (rnc (Qa0 rfl) rn0)))) (slc (Qam (rnc (.plain _ (NLt.fn _ _ _ nl0 nl0)) rn0)) (slc (Qam (rncc rn0)) Qat)) (slc (Qam (rnc (.plain _ (NLt.fn _ _ _ nl0 nl0)) rn0)) (slc (Qam (rncc rn0)) Qat)) (.plain _ nll) rfl rfl rfl,Qlw rfl,Qa8 (vs:=[(I ((if x29<y17 then x29 else y17))),(I ((if x31>y18 then x31 else y18)))]) rfl Q2k Qz3 rfl (by rfl) rfl,tv⟩<|bln<|thn<|wxz1<|thn ?_
    exact arm (mto (n:=41) [(1,Qro),(4,.ref 2 2 0 0),(5,.ref 3 2 0 0),(20,(Qvn p0)),(21,(I (((p0.drop (1:Int).toNat).length:Int)))),(22,(I (w64 (y16+1))))] [0,1,2,3] [Qh4,(Qh3 p1 p2),Qyj,(.own 2 [[(I ((if x29<y17 then x29 else y17))),(I ((if x31>y18 then x31 else y18)))]])] hφ0 (pc (.rn (Qbj rn0 (rnc (rqr rfl) (rnc (rqr rfl) rn0)))) (prr (prr (pc (rnd Qb1) (pw (pw pn)))))) (qb (lc (.rn (Qbj rn0 rn0)) ln) (qb (lcc ln) (qb (lcc ln) (qb (lcc ln) qn))))) (ih (w64 (y16+1),(if x29<y17 then x29 else y17),(if x31>y18 then x31 else y18)) h)
   ·exact wfn hc23<|Qbl<|Qax<|Qax<|Qbk rfl<|thn<|⟨(y17,y18),h,(mto (n:=41) [(4,.ref 2 2 0 0),(5,.ref 3 2 0 0)] [0,1,2,3] [Qh4,(Qh3 p1 p2),Qyj,(.own 2 [[I y17,I y18]])] hφ0 (prr (prr pn)) (qb (lc (.rn (Qbj rn0 rn0)) ln) (qb (lcc ln) (qb (lcc ln) (qb (lcc ln) qn)))))⟩
def Qih (N:Nat) (p0:(List Qbt)) (p1:Int) (p2:Int):Option Qbo:=
  (Qgp N p0 p1 p2).bind fun x5=>
  some x5
def Qyk (p0:(List Qbt)):AV:=.dat 1 ((p0:List Qbt).map Qbe)
def Qt0 (p1:Int) (p2:Int):Slot:=.own 2 [[(I (p1)),(I (p2))]]
def Zel:AV:=.fn (.func 81) [] [(.ref 2 1 (0) 0),(.ref 1 2 (0) 0)]
def Q8b:Slot:=.own 1 [[(.fn (.func 83) [] [])]]
def Zek (x5:Qbo):AV:=.agg [(I (x5.Lo)),(I (x5.Hi))]
def Q8a (x5:Qbo):Slot:=.own 2 [[(I (x5.Lo)),(I (x5.Hi))]]
theorem Qq5 (N:Nat) (p0:(List Qbt)) (p1:Int) (p2:Int) (r:Qbo) (h:Qih N p0 p1 p2=some r):Spec prog 79 [(.fn (.func 83) [] []),(.ref 0 1 (0) 0),(.ref 1 2 (0) 0)] [(.own 1 [[(Qyk p0)]]),(Qt0 p1 p2)] (.agg [(I (r.Lo)),(I (r.Hi))]) [(.own 1 [[(Qyk p0)]]),(Qt0 p1 p2),(.own 2 [[(I (r.Lo)),(I (r.Hi))]])]:=by
  refine Qal func79 rfl 3 (nle rfl) (fun X φ0 w0 hφ0 hd0=>?_)
  unfold Qih at h
  refine Qbv<|wxz ?_
  obtain⟨x5,hf4,h⟩:=bno h
  refine wx tbk [(1,rp [(.tmp 3,.ref 2 1 0 0),(.tmp 2,.ref 1 2 0 0)] Zel),(2,⟨[fu 80,(.tmp 5,(Qyk p0)),(.tmp 6,Zel)],[(2,Q8b),(1,(Qt0 p1 p2)),(4,.unused)],(Zek x5),[(2,Q8b),(1,(Qt0 p1 p2)),(4,(Q8a x5))],false⟩)] ⟨Qe2 (fs:=[]) (cs:=[.ref 2 1 0 0,.ref 1 2 0 0]) rfl rfl rfl rfl,Qau (first:=[]) (cap:=[]) (vs:=[(Qyk p0),Zel]) (σr:=[Q8b,(Qt0 p1 p2)]) (σr':=[Q8b,(Qt0 p1 p2),(Q8a x5)]) (res':=(Zek x5)) [2,1,4] rfl Q0w (Qne N p0 p1 p2 _ hf4) rfl (Qbp (rnc (pld Qb1) (rnc (Qbj rn0 (rnc (Qa0 rfl) (rnc (Qa0 rfl) rn0))) rn0))) (slc (Qam (rnc (.plain _ (NLt.fn _ _ _ nl0 nl0)) rn0)) (slc (Qam (rncc rn0)) Qat)) (slc (Qam (rnc (.plain _ (NLt.fn _ _ _ nl0 nl0)) rn0)) (slc (Qam (rncc rn0)) (slc (Qam (rncc rn0)) Qat))) (.plain _ (NLt.agg _ (nlcc nl0))) rfl rfl rfl,tv⟩ ?_
  refine wmr (mto (n:=8) (l':=[(4,.ref 2 2 0 0)]) (own':=[(.own 1 [[(Qyk p0)]]),(Qt0 p1 p2),(Q8a x5)]) [(4,.ref 3 2 0 0)] [0,1,3] [(.own 1 [[(Qyk p0)]]),(Qt0 p1 p2),(Q8a x5)] hφ0 (prr pn) (qb (lc (rnd Qb1) ln) (qb (lcc ln) (qb (lcc ln) qn))))<|Qah ?_
  obtain rfl:=osi h
  exact⟨_,Mor.rfl,Qdh (vs:=[(Zek x5)]) ⟨Qb2 (n:=2) (m:=2) (j:=0) (i:=0) (xs:=[[I x5.Lo,I x5.Hi]]) (by kernel_rfl) (by kernel_rfl) Qo7 (by decide) rfl (nle rfl) rfl,tv⟩ rfl (NLt.of0 (NLt.agg _ (nlcc nl0))) (by kernel_rfl) (Qar (Qa4 (nlc (NLt.of0 (nld Qb1 _)) nl0)) (Qar (Qa4 (nlc (NLt.of0 nll) (nlc (NLt.of0 nll) nl0))) (Qar (Qa4 (nlc (NLt.of0 nll) (nlc (NLt.of0 nll) nl0))) Qbx)))⟩
def Qnh (_N:Nat) (p0:Qaa):Option Int:=
  some p0.Silica
theorem Qti (N:Nat) (p0:Qaa) (r:Int) (h:Qnh N p0=some r):Spec prog 84 [(.agg (Qae p0))] [] (I r) []:=by
  refine Qal func84 rfl 0 (nle rfl) (fun X φ0 w0 hφ0 hd0=>?_)
  unfold Qnh at h
  refine wxz<|wxz<|Qah ?_
  obtain rfl:=osi h
  exact fend ⟨[I p0.Silica],⟨rot,tv⟩,rfl⟩ nll
def Qem (N:Nat) (p0:Qbt) (p1:Int) (p2:Int):Option Int:=
  (getI p0.Tick.Out p1).bind fun x2=>
  (getI x2 p2).bind fun x6=>
  (Qnh N x6).bind fun x11=>
  some x11
def Q74:Slot:=.own 1 [[(.fn (.func 84) [] [])]]
def Zt5 (x6:Qaa):AV:=.agg [(I (x6.Mass)),(I (x6.Heat)),(I (x6.Silica)),(I (x6.Gas))]
theorem Qg7 (N:Nat) (p0:Qbt) (p1:Int) (p2:Int) (r:Int) (h:Qem N p0 p1 p2=some r):Spec prog 81 [(.dptr (Qdk (p0)) 0),(.ref 0 1 (0) 0),(.ref 1 2 (0) 0)] [Q74,(.own 2 [[(I (p1)),(I (p2))]])] (I (r)) [Q74,(.own 2 [[(I (p1)),(I (p2))]])]:=by
  refine Qal func81 rfl 2 (nle rfl) (fun X φ0 w0 hφ0 hd0=>?_)
  unfold Qem at h
  refine Qbv<|wxz ?_
  obtain⟨x2,hg3,h⟩:=bno h
  obtain⟨hi4,hj5⟩:=gsm hg3
  obtain⟨x6,hg7,h⟩:=bno h
  obtain⟨hi8,hj9⟩:=gsm hg7
  obtain⟨x11,hf10,h⟩:=bno h
  refine wxd tbk [(8,rp [(.tmp 10,(.dat 1 ((p0.Tick.Out:List (List Qaa)).map Qaf))),(.tmp 12,I p1)] (.dptr (Qaf (x2)) 0)),(12,rp [(.tmp 14,(.dat 4 ((x2:List Qaa).map Qae))),(.tmp 16,I p2)] (.dptr (Qae (x6)) 0)),(14,rp [(.tmp 5,(.fn (.func 84) [] [])),(.tmp 18,(Zt5 x6))] (I x11))] ⟨aid rfl underlying31 ti45 rfl rfl hi4 (mgt Qaf hj5) rfl,aid rfl underlying45 ti63 rfl rfl hi8 (mgt Qae hj9) rfl,apv Zr2 (Qti N x6 _ hf10) (nlc (NLt.agg _ (nlcc (nlcc nl0))) nl0) nll,tv⟩ ?_
  refine wmr (mto (n:=20) (l':=[(4,I x11)]) (own':=[Q74,(.own 2 [[I p1,I p2]])]) [(4,I x11)] [0,1] [Q74,(.own 2 [[I p1,I p2]])] hφ0 (pw pn) (qb (lc (.rn (Qbj rn0 rn0)) ln) (qb (lcc ln) qn)))<|Qah ?_
  obtain rfl:=osi h
  exact⟨_,Mor.rfl,Qdh (vs:=[I x11]) ⟨rot,tv⟩ rfl (NLt.of0 nll) (by kernel_rfl) (Qar (Qa4 (nlc (NLt.of0 (NLt.fn _ _ _ nl0 nl0)) nl0)) (Qar (Qa4 (nlc (NLt.of0 nll) (nlc (NLt.of0 nll) nl0))) Qbx))⟩
def Qcu (N:Nat) (p0:(List Qbt)) (p1:Int) (p2:Int) (k14:Int×Int→Option Qbo):Nat→Int→Int→Int→Option Qbo
  |0,_,_,_=>none
  |n22+1,y16,y17,y18=>
    bif (decide (y16<((p0.drop (1:Int).toNat).length:Int))) then
     (getI (p0.drop (1:Int).toNat) y16).bind fun x24=>
     (Qem N x24 p1 p2).bind fun x29=>
     (Qem N x24 p1 p2).bind fun x31=>
     Qcu N p0 p1 p2 k14 n22 (w64 (y16+1)) (if x29<y17 then x29 else y17) (if x31>y18 then x31 else y18)
    else
     k14 (y17,y18)
def Qgo (N:Nat) (p0:(List Qbt)) (p1:Int) (p2:Int):Option Qbo:=
  (getI p0 0).bind fun x4=>
  (Qem N x4 p1 p2).bind fun x9=>
  (Qem N x4 p1 p2).bind fun x11=>
  Qbn (fun ⟨y12,y13⟩=>
    some (⟨y12,y13⟩:Qbo)) fun k14:Int×Int→Option Qbo=>
  chk (decide (0≤1)&&decide (1≤(p0.length:Int))&&decide ((p0.length:Int)≤(p0.length:Int)))<|
  Qcu N p0 p1 p2 k14 N 0 x9 x11
def Q75 (p0:(List Qbt)):AV:=.dat 1 ((p0:List Qbt).map Qbe)
def Qrn:AV:=.fn (.func 81) [] [(.ref 0 1 (0) 0),(.ref 1 2 (0) 0)]
def Qh2:Slot:=.own 1 [[(.fn (.func 84) [] [])]]
def Qh1 (p1:Int) (p2:Int):Slot:=.own 2 [[(I (p1)),(I (p2))]]
def Qyh:Slot:=.own 2 [[(I (0)),(I (0))]]
def Qvm (p0:(List Qbt)):AV:=.dat 1 ((p0.drop (1:Int).toNat:List Qbt).map Qbe)
theorem Qnd (N:Nat) (p0:(List Qbt)) (p1:Int) (p2:Int) (r:Qbo) (h:Qgo N p0 p1 p2=some r):Spec prog 80 [(Q75 p0),Qrn] [Qh2,(Qh1 p1 p2)] (.agg [(I (r.Lo)),(I (r.Hi))]) [Qh2,(Qh1 p1 p2),(.own 2 [[(I (r.Lo)),(I (r.Hi))]])]:=by
  refine Qal func80 rfl 3 (nle rfl) (fun X φ0 w0 hφ0 hd0=>?_)
  unfold Qgo at h
  refine Qbv<|wxz ?_
  obtain⟨x4,hg5,h⟩:=bno h
  obtain⟨hi6,hj7⟩:=gsm hg5
  obtain⟨x9,hf8,h⟩:=bno h
  obtain⟨x11,hf10,h⟩:=bno h
  refine wxd tbk [(2,rp [(.tmp 9,(Q75 p0)),ci 0] (.dptr (Qbe (x4)) 0)),(4,⟨[(.tmp 8,Qrn),(.tmp 11,(.dptr (Qdk (x4)) 0))],[(0,Qh2),(1,(Qh1 p1 p2))],I x9,[(0,Qh2),(1,(Qh1 p1 p2))],false⟩),(7,rp [(.tmp 14,(Q75 p0)),ci 0] (.dptr (Qbe (x4)) 0)),(9,⟨[(.tmp 13,Qrn),(.tmp 16,(.dptr (Qdk (x4)) 0))],[(0,Qh2),(1,(Qh1 p1 p2))],I x11,[(0,Qh2),(1,(Qh1 p1 p2))],false⟩),(10,rp [(.tmp 12,I x9),(.tmp 17,I x11)] (.agg [I x9,I x11]))] ⟨aid rfl underlying168 Qkp rfl rfl hi6 (mgt Qbe hj7) rfl,Qau (first:=[]) (cap:=[.ref 0 1 0 0,.ref 1 2 0 0]) (vs:=[(.dptr (Qdk (x4)) 0)]) (σr:=[Qh2,(Qh1 p1 p2)]) (σr':=[Qh2,(Qh1 p1 p2)]) (res':=(I x9)) [0,1] rfl Qi9 (Qg7 N x4 p1 p2 _ hf8) rfl (Qbp (rnc (.plain _ (NLt.dptr _ _ (Qha _))) (rnc (Qa0 rfl) (rnc (Qa0 rfl) rn0)))) (slc (Qam (rnc (.plain _ (NLt.fn _ _ _ nl0 nl0)) rn0)) (slc (Qam (rncc rn0)) Qat)) (slc (Qam (rnc (.plain _ (NLt.fn _ _ _ nl0 nl0)) rn0)) (slc (Qam (rncc rn0)) Qat)) (.plain _ nll) rfl rfl rfl,aid rfl underlying168 Qkp rfl rfl hi6 (mgt Qbe hj7) rfl,Qau (first:=[]) (cap:=[.ref 0 1 0 0,.ref 1 2 0 0]) (vs:=[(.dptr (Qdk (x4)) 0)]) (σr:=[Qh2,(Qh1 p1 p2)]) (σr':=[Qh2,(Qh1 p1 p2)]) (res':=(I x11)) [0,1] rfl Qi9 (Qg7 N x4 p1 p2 _ hf10) rfl (Qbp (rnc (.plain _ (NLt.dptr _ _ (Qha _))) (rnc (Qa0 rfl) (rnc (Qa0 rfl) rn0)))) (slc (Qam (rnc (.plain _ (NLt.fn _ _ _ nl0 nl0)) rn0)) (slc (Qam (rncc rn0)) Qat)) (slc (Qam (rnc (.plain _ (NLt.fn _ _ _ nl0 nl0)) rn0)) (slc (Qam (rncc rn0)) Qat)) (.plain _ nll) rfl rfl rfl,Qa8 (vs:=[I x9,I x11]) rfl Q2k Qz3 rfl (by rfl) rfl,tv⟩ ?_
  obtain⟨k14,hk_k14,h⟩:=jko h
  refine wjn (τ:=Int×Int) (fun t=>k14 t=some r) (fun ⟨y12,y13⟩=>⟨mk 41 [(4,.ref 2 2 0 0),(5,.ref 3 2 0 0)],[Qh2,(Qh1 p1 p2),Qyh,(.own 2 [[I y12,I y13]])]⟩) (fun t h=>?_) ?_
  ·subst hk_k14
   obtain⟨y12,y13⟩:=t
   refine wxz<|wmr (mto (n:=41) (l':=[(4,.ref 2 2 0 0)]) (own':=[Qh2,(Qh1 p1 p2),(.own 2 [[(I (((⟨y12,y13⟩:Qbo).Lo))),(I (((⟨y12,y13⟩:Qbo).Hi)))]])]) [(4,.ref 2 2 0 0)] [0,1,2] [Qh2,(Qh1 p1 p2),(.own 2 [[I y12,I y13]])] hφ0 (prr pn) (qb (lc (.rn (Qbj rn0 rn0)) ln) (qb (lcc ln) (qb (lcc ln) qn))))<|Qah ?_
   obtain rfl:=osi h
   exact⟨_,Mor.rfl,Qdh (vs:=[(.agg [(I ((⟨y12,y13⟩:Qbo).Lo)),(I ((⟨y12,y13⟩:Qbo).Hi))])]) ⟨Qb2 (n:=2) (m:=2) (j:=0) (i:=0) (xs:=[[(I ((⟨y12,y13⟩:Qbo).Lo)),(I ((⟨y12,y13⟩:Qbo).Hi))]]) (by kernel_rfl) (by kernel_rfl) Qo7 (by decide) rfl (nle rfl) rfl,tv⟩ rfl (NLt.of0 (NLt.agg _ (nlcc nl0))) (by kernel_rfl) (Qar (Qa4 (nlc (NLt.of0 (NLt.fn _ _ _ nl0 nl0)) nl0)) (Qar (Qa4 (nlc (NLt.of0 nll) (nlc (NLt.of0 nll) nl0))) (Qar (Qa4 (nlc (NLt.of0 nll) (nlc (NLt.of0 nll) nl0))) Qbx)))⟩
  ·skip
   obtain⟨hs15,h⟩:=cko h
   refine wx tbk [(1,rp [(.tmp 19,(Q75 p0)),ci 1] (Qvm p0)),(2,rp [(.tmp 20,(Qvm p0))] (I (((p0.drop (1:Int).toNat).length:Int))))] ⟨Qjx (k:=.i64) (k':=.i64) (lo:=some (.const (.int .i64 1))) (hi:=none) (l:=1) (hh:=((p0.length:Nat):Int)) rfl underlying168 Qkp rfl (fun e=>nomatch e) (fun _=>by simp) (Qx7 hs15) (Qx6 hs15) (Zb3 (Qbe) hs15) (Zfr Qbe),alm (c:=Qbe) (l:=p0.drop (1:Int).toNat) (aln rfl underlying168 rfl),tv⟩<|Qao ?_
   refine wmr (mto (n:=41) (l':=[(1,Qrn),(4,.ref 2 2 0 0),(5,.ref 3 2 0 0),(20,(Qvm p0)),(21,(I (((p0.drop (1:Int).toNat).length:Int)))),(22,I 0)]) (own':=[Qh2,(Qh1 p1 p2),Qyh,(.own 2 [[I x9,I x11]])]) [(1,Qrn),(4,.ref 2 2 0 0),(5,.ref 3 2 0 0),(20,(Qvm p0)),(21,(I (((p0.drop (1:Int).toNat).length:Int)))),(22,I 0)] [0,1,2,3] [Qh2,(Qh1 p1 p2),Qyh,(.own 2 [[I x9,I x11]])] hφ0 (pc (.rn (Qbj rn0 (rnc (rqr rfl) (rnc (rqr rfl) rn0)))) (prr (prr (pc (rnd Qb1) (pw (pw pn)))))) (qb (lc (.rn (Qbj rn0 rn0)) ln) (qb (lcc ln) (qb (lcc ln) (qb (lcc ln) qn))))) ?_
   refine Qb3 (τ:=Int×Int×Int) (fun n t=>Qcu N p0 p1 p2 k14 n t.1 t.2.1 t.2.2=some r) (fun ⟨y16,y17,y18⟩=>⟨mk 41 [(1,Qrn),(4,.ref 2 2 0 0),(5,.ref 3 2 0 0),(20,(Qvm p0)),(21,(I (((p0.drop (1:Int).toNat).length:Int)))),(22,I y16)],[Qh2,(Qh1 p1 p2),Qyh,(.own 2 [[I y17,I y18]])]⟩) (fun t h=>by rw[Qcu] at h;cases h) (fun n22 ih t h=>?_) N (0,x9,x11) h
   obtain⟨y16,y17,y18⟩:=t
   rw[Qcu] at h
   skip
   refine wxz<|wsq ?_
   refine bfe h (fun hc23 h=>?_) fun hc23 h=>?_
   ·refine wft hc23<|Qap<|thn<|wsq<|Qao ?_
    obtain⟨x24,hg25,h⟩:=bno h
    obtain⟨hi26,hj27⟩:=gsm hg25
    refine wx tbk [(0,rp [(.tmp 20,(Qvm p0)),(.tmp 22,I y16)] (.dptr (Qbe (x24)) 0))] ⟨aid rfl underlying168 Qkp rfl rfl hi26 (mgt Qbe hj27) rfl,tv⟩ ?_
    obtain⟨x29,hf28,h⟩:=bno h
    obtain⟨x31,hf30,h⟩:=bno h
    refine wy1 tbk [(4,⟨[(.tmp 28,Qrn),(.tmp 29,(.dptr (Qdk (x24)) 0))],[(0,Qh2),(1,(Qh1 p1 p2))],I x29,[(0,Qh2),(1,(Qh1 p1 p2))],false⟩),(5,rp [(.tmp 27,I y17),(.tmp 30,I x29)] (I ((if x29<y17 then x29 else y17)))),(10,⟨[(.tmp 34,Qrn),(.tmp 35,(.dptr (Qdk (x24)) 0))],[(0,Qh2),(1,(Qh1 p1 p2))],I x31,[(0,Qh2),(1,(Qh1 p1 p2))],false⟩),(11,rp [(.tmp 33,I y18),(.tmp 36,I x31)] (I ((if x31>y18 then x31 else y18)))),(12,rp [(.tmp 31,(I ((if x29<y17 then x29 else y17)))),(.tmp 37,(I ((if x31>y18 then x31 else y18))))] (.agg [(I ((if x29<y17 then x29 else y17))),(I ((if x31>y18 then x31 else y18)))]))] ⟨Qau (first:=[]) (cap:=[.ref 0 1 0 0,.ref 1 2 0 0]) (vs:=[(.dptr (Qdk (x24)) 0)]) (σr:=[Qh2,(Qh1 p1 p2)]) (σr':=[Qh2,(Qh1 p1 p2)]) (res':=(I x29)) [0,1] rfl Qi9 (Qg7 N x24 p1 p2 _ hf28) rfl (Qbp (rnc (.plain _ (NLt.dptr _ _ (Qha _))) (rnc (Qa0 rfl) (rnc (Qa0 rfl) rn0)))) (slc (Qam (rnc (.plain _ (NLt.fn _ _ _ nl0 nl0)) rn0)) (slc (Qam (rncc rn0)) Qat)) (slc (Qam (rnc (.plain _ (NLt.fn _ _ _ nl0 nl0)) rn0)) (slc (Qam (rncc rn0)) Qat)) (.plain _ nll) rfl rfl rfl,Qmu rfl,Qau (first:=[]) (cap:=[.ref 0 1 0 0,.ref 1 2 0 0]) (vs:=[(.dptr (Qdk (x24)) 0)]) (σr:=[Qh2,(Qh1 p1 p2)]) (σr':=[Qh2,(Qh1 p1 p2)]) (res':=(I x31)) [0,1] rfl Qi9 (Qg7 N x24 p1 p2 _ hf30) rfl (Qbp (rnc (.plain _ (NLt.dptr _ _ (Qha _))) (rnc (Qa0 rfl) (rnc (Qa0 rfl) rn0)))) (slc (Qam (rnc (.plain _ (NLt.fn _ _ _ nl0 nl0)) rn0)) (slc (Qam (rncc rn0)) Qat)) (slc (Qam (rnc (.plain _ (NLt.fn _ _ _ nl0 nl0)) rn0)) (slc (Qam (rncc rn0)) Qat)) (.plain _ nll) rfl rfl rfl,Qlw rfl,Qa8 (vs:=[(I ((if x29<y17 then x29 else y17))),(I ((if x31>y18 then x31 else y18)))]) rfl Q2k Qz3 rfl (by rfl) rfl,tv⟩<|bln<|thn<|wxz1<|thn ?_
    exact arm (mto (n:=41) [(1,Qrn),(4,.ref 2 2 0 0),(5,.ref 3 2 0 0),(20,(Qvm p0)),(21,(I (((p0.drop (1:Int).toNat).length:Int)))),(22,(I (w64 (y16+1))))] [0,1,2,3] [Qh2,(Qh1 p1 p2),Qyh,(.own 2 [[(I ((if x29<y17 then x29 else y17))),(I ((if x31>y18 then x31 else y18)))]])] hφ0 (pc (.rn (Qbj rn0 (rnc (rqr rfl) (rnc (rqr rfl) rn0)))) (prr (prr (pc (rnd Qb1) (pw (pw pn)))))) (qb (lc (.rn (Qbj rn0 rn0)) ln) (qb (lcc ln) (qb (lcc ln) (qb (lcc ln) qn))))) (ih (w64 (y16+1),(if x29<y17 then x29 else y17),(if x31>y18 then x31 else y18)) h)
   ·exact wfn hc23<|Qbl<|Qax<|Qax<|Qbk rfl<|thn<|⟨(y17,y18),h,(mto (n:=41) [(4,.ref 2 2 0 0),(5,.ref 3 2 0 0)] [0,1,2,3] [Qh2,(Qh1 p1 p2),Qyh,(.own 2 [[I y17,I y18]])] hφ0 (prr (prr pn)) (qb (lc (.rn (Qbj rn0 rn0)) ln) (qb (lcc ln) (qb (lcc ln) (qb (lcc ln) qn)))))⟩
def Qig (N:Nat) (p0:(List Qbt)) (p1:Int) (p2:Int):Option Qbo:=
  (Qgo N p0 p1 p2).bind fun x5=>
  some x5
def Qyi (p0:(List Qbt)):AV:=.dat 1 ((p0:List Qbt).map Qbe)
def Qtz (p1:Int) (p2:Int):Slot:=.own 2 [[(I (p1)),(I (p2))]]
def Zej:AV:=.fn (.func 81) [] [(.ref 2 1 (0) 0),(.ref 1 2 (0) 0)]
def Q77:Slot:=.own 1 [[(.fn (.func 84) [] [])]]
def Zei (x5:Qbo):AV:=.agg [(I (x5.Lo)),(I (x5.Hi))]
def Q76 (x5:Qbo):Slot:=.own 2 [[(I (x5.Lo)),(I (x5.Hi))]]
theorem Qq4 (N:Nat) (p0:(List Qbt)) (p1:Int) (p2:Int) (r:Qbo) (h:Qig N p0 p1 p2=some r):Spec prog 79 [(.fn (.func 84) [] []),(.ref 0 1 (0) 0),(.ref 1 2 (0) 0)] [(.own 1 [[(Qyi p0)]]),(Qtz p1 p2)] (.agg [(I (r.Lo)),(I (r.Hi))]) [(.own 1 [[(Qyi p0)]]),(Qtz p1 p2),(.own 2 [[(I (r.Lo)),(I (r.Hi))]])]:=by
  refine Qal func79 rfl 3 (nle rfl) (fun X φ0 w0 hφ0 hd0=>?_)
  unfold Qig at h
  refine Qbv<|wxz ?_
  obtain⟨x5,hf4,h⟩:=bno h
  refine wx tbk [(1,rp [(.tmp 3,.ref 2 1 0 0),(.tmp 2,.ref 1 2 0 0)] Zej),(2,⟨[fu 80,(.tmp 5,(Qyi p0)),(.tmp 6,Zej)],[(2,Q77),(1,(Qtz p1 p2)),(4,.unused)],(Zei x5),[(2,Q77),(1,(Qtz p1 p2)),(4,(Q76 x5))],false⟩)] ⟨Qe2 (fs:=[]) (cs:=[.ref 2 1 0 0,.ref 1 2 0 0]) rfl rfl rfl rfl,Qau (first:=[]) (cap:=[]) (vs:=[(Qyi p0),Zej]) (σr:=[Q77,(Qtz p1 p2)]) (σr':=[Q77,(Qtz p1 p2),(Q76 x5)]) (res':=(Zei x5)) [2,1,4] rfl Q0w (Qnd N p0 p1 p2 _ hf4) rfl (Qbp (rnc (pld Qb1) (rnc (Qbj rn0 (rnc (Qa0 rfl) (rnc (Qa0 rfl) rn0))) rn0))) (slc (Qam (rnc (.plain _ (NLt.fn _ _ _ nl0 nl0)) rn0)) (slc (Qam (rncc rn0)) Qat)) (slc (Qam (rnc (.plain _ (NLt.fn _ _ _ nl0 nl0)) rn0)) (slc (Qam (rncc rn0)) (slc (Qam (rncc rn0)) Qat))) (.plain _ (NLt.agg _ (nlcc nl0))) rfl rfl rfl,tv⟩ ?_
  refine wmr (mto (n:=8) (l':=[(4,.ref 2 2 0 0)]) (own':=[(.own 1 [[(Qyi p0)]]),(Qtz p1 p2),(Q76 x5)]) [(4,.ref 3 2 0 0)] [0,1,3] [(.own 1 [[(Qyi p0)]]),(Qtz p1 p2),(Q76 x5)] hφ0 (prr pn) (qb (lc (rnd Qb1) ln) (qb (lcc ln) (qb (lcc ln) qn))))<|Qah ?_
  obtain rfl:=osi h
  exact⟨_,Mor.rfl,Qdh (vs:=[(Zei x5)]) ⟨Qb2 (n:=2) (m:=2) (j:=0) (i:=0) (xs:=[[I x5.Lo,I x5.Hi]]) (by kernel_rfl) (by kernel_rfl) Qo7 (by decide) rfl (nle rfl) rfl,tv⟩ rfl (NLt.of0 (NLt.agg _ (nlcc nl0))) (by kernel_rfl) (Qar (Qa4 (nlc (NLt.of0 (nld Qb1 _)) nl0)) (Qar (Qa4 (nlc (NLt.of0 nll) (nlc (NLt.of0 nll) nl0))) (Qar (Qa4 (nlc (NLt.of0 nll) (nlc (NLt.of0 nll) nl0))) Qbx)))⟩
def Qng (_N:Nat) (p0:Qaa):Option Int:=
  some p0.Gas
theorem Qth (N:Nat) (p0:Qaa) (r:Int) (h:Qng N p0=some r):Spec prog 85 [(.agg (Qae p0))] [] (I r) []:=by
  refine Qal func85 rfl 0 (nle rfl) (fun X φ0 w0 hφ0 hd0=>?_)
  unfold Qng at h
  refine wxz<|wxz<|Qah ?_
  obtain rfl:=osi h
  exact fend ⟨[I p0.Gas],⟨rot,tv⟩,rfl⟩ nll
def Qel (N:Nat) (p0:Qbt) (p1:Int) (p2:Int):Option Int:=
  (getI p0.Tick.Out p1).bind fun x2=>
  (getI x2 p2).bind fun x6=>
  (Qng N x6).bind fun x11=>
  some x11
def Q70:Slot:=.own 1 [[(.fn (.func 85) [] [])]]
def Zt4 (x6:Qaa):AV:=.agg [(I (x6.Mass)),(I (x6.Heat)),(I (x6.Silica)),(I (x6.Gas))]
theorem Qg6 (N:Nat) (p0:Qbt) (p1:Int) (p2:Int) (r:Int) (h:Qel N p0 p1 p2=some r):Spec prog 81 [(.dptr (Qdk (p0)) 0),(.ref 0 1 (0) 0),(.ref 1 2 (0) 0)] [Q70,(.own 2 [[(I (p1)),(I (p2))]])] (I (r)) [Q70,(.own 2 [[(I (p1)),(I (p2))]])]:=by
  refine Qal func81 rfl 2 (nle rfl) (fun X φ0 w0 hφ0 hd0=>?_)
  unfold Qel at h
  refine Qbv<|wxz ?_
  obtain⟨x2,hg3,h⟩:=bno h
  obtain⟨hi4,hj5⟩:=gsm hg3
  obtain⟨x6,hg7,h⟩:=bno h
  obtain⟨hi8,hj9⟩:=gsm hg7
  obtain⟨x11,hf10,h⟩:=bno h
  refine wxd tbk [(8,rp [(.tmp 10,(.dat 1 ((p0.Tick.Out:List (List Qaa)).map Qaf))),(.tmp 12,I p1)] (.dptr (Qaf (x2)) 0)),(12,rp [(.tmp 14,(.dat 4 ((x2:List Qaa).map Qae))),(.tmp 16,I p2)] (.dptr (Qae (x6)) 0)),(14,rp [(.tmp 5,(.fn (.func 85) [] [])),(.tmp 18,(Zt4 x6))] (I x11))] ⟨aid rfl underlying31 ti45 rfl rfl hi4 (mgt Qaf hj5) rfl,aid rfl underlying45 ti63 rfl rfl hi8 (mgt Qae hj9) rfl,apv Zr1 (Qth N x6 _ hf10) (nlc (NLt.agg _ (nlcc (nlcc nl0))) nl0) nll,tv⟩ ?_
  refine wmr (mto (n:=20) (l':=[(4,I x11)]) (own':=[Q70,(.own 2 [[I p1,I p2]])]) [(4,I x11)] [0,1] [Q70,(.own 2 [[I p1,I p2]])] hφ0 (pw pn) (qb (lc (.rn (Qbj rn0 rn0)) ln) (qb (lcc ln) qn)))<|Qah ?_
  obtain rfl:=osi h
  exact⟨_,Mor.rfl,Qdh (vs:=[I x11]) ⟨rot,tv⟩ rfl (NLt.of0 nll) (by kernel_rfl) (Qar (Qa4 (nlc (NLt.of0 (NLt.fn _ _ _ nl0 nl0)) nl0)) (Qar (Qa4 (nlc (NLt.of0 nll) (nlc (NLt.of0 nll) nl0))) Qbx))⟩
def Qct (N:Nat) (p0:(List Qbt)) (p1:Int) (p2:Int) (k14:Int×Int→Option Qbo):Nat→Int→Int→Int→Option Qbo
  |0,_,_,_=>none
  |n22+1,y16,y17,y18=>
    bif (decide (y16<((p0.drop (1:Int).toNat).length:Int))) then
     (getI (p0.drop (1:Int).toNat) y16).bind fun x24=>
     (Qel N x24 p1 p2).bind fun x29=>
     (Qel N x24 p1 p2).bind fun x31=>
     Qct N p0 p1 p2 k14 n22 (w64 (y16+1)) (if x29<y17 then x29 else y17) (if x31>y18 then x31 else y18)
    else
     k14 (y17,y18)
def Qgn (N:Nat) (p0:(List Qbt)) (p1:Int) (p2:Int):Option Qbo:=
  (getI p0 0).bind fun x4=>
  (Qel N x4 p1 p2).bind fun x9=>
  (Qel N x4 p1 p2).bind fun x11=>
  Qbn (fun ⟨y12,y13⟩=>
    some (⟨y12,y13⟩:Qbo)) fun k14:Int×Int→Option Qbo=>
  chk (decide (0≤1)&&decide (1≤(p0.length:Int))&&decide ((p0.length:Int)≤(p0.length:Int)))<|
  Qct N p0 p1 p2 k14 N 0 x9 x11
def Q71 (p0:(List Qbt)):AV:=.dat 1 ((p0:List Qbt).map Qbe)
def Qrm:AV:=.fn (.func 81) [] [(.ref 0 1 (0) 0),(.ref 1 2 (0) 0)]
def Qh0:Slot:=.own 1 [[(.fn (.func 85) [] [])]]
def Qhz (p1:Int) (p2:Int):Slot:=.own 2 [[(I (p1)),(I (p2))]]
def Qyf:Slot:=.own 2 [[(I (0)),(I (0))]]
def Qvl (p0:(List Qbt)):AV:=.dat 1 ((p0.drop (1:Int).toNat:List Qbt).map Qbe)
theorem Qnc (N:Nat) (p0:(List Qbt)) (p1:Int) (p2:Int) (r:Qbo) (h:Qgn N p0 p1 p2=some r):Spec prog 80 [(Q71 p0),Qrm] [Qh0,(Qhz p1 p2)] (.agg [(I (r.Lo)),(I (r.Hi))]) [Qh0,(Qhz p1 p2),(.own 2 [[(I (r.Lo)),(I (r.Hi))]])]:=by
  refine Qal func80 rfl 3 (nle rfl) (fun X φ0 w0 hφ0 hd0=>?_)
  unfold Qgn at h
  refine Qbv<|wxz ?_
  obtain⟨x4,hg5,h⟩:=bno h
  obtain⟨hi6,hj7⟩:=gsm hg5
  obtain⟨x9,hf8,h⟩:=bno h
  obtain⟨x11,hf10,h⟩:=bno h
  refine wxd tbk [(2,rp [(.tmp 9,(Q71 p0)),ci 0] (.dptr (Qbe (x4)) 0)),(4,⟨[(.tmp 8,Qrm),(.tmp 11,(.dptr (Qdk (x4)) 0))],[(0,Qh0),(1,(Qhz p1 p2))],I x9,[(0,Qh0),(1,(Qhz p1 p2))],false⟩),(7,rp [(.tmp 14,(Q71 p0)),ci 0] (.dptr (Qbe (x4)) 0)),(9,⟨[(.tmp 13,Qrm),(.tmp 16,(.dptr (Qdk (x4)) 0))],[(0,Qh0),(1,(Qhz p1 p2))],I x11,[(0,Qh0),(1,(Qhz p1 p2))],false⟩),(10,rp [(.tmp 12,I x9),(.tmp 17,I x11)] (.agg [I x9,I x11]))] ⟨aid rfl underlying168 Qkp rfl rfl hi6 (mgt Qbe hj7) rfl,Qau (first:=[]) (cap:=[.ref 0 1 0 0,.ref 1 2 0 0]) (vs:=[(.dptr (Qdk (x4)) 0)]) (σr:=[Qh0,(Qhz p1 p2)]) (σr':=[Qh0,(Qhz p1 p2)]) (res':=(I x9)) [0,1] rfl Qi9 (Qg6 N x4 p1 p2 _ hf8) rfl (Qbp (rnc (.plain _ (NLt.dptr _ _ (Qha _))) (rnc (Qa0 rfl) (rnc (Qa0 rfl) rn0)))) (slc (Qam (rnc (.plain _ (NLt.fn _ _ _ nl0 nl0)) rn0)) (slc (Qam (rncc rn0)) Qat)) (slc (Qam (rnc (.plain _ (NLt.fn _ _ _ nl0 nl0)) rn0)) (slc (Qam (rncc rn0)) Qat)) (.plain _ nll) rfl rfl rfl,aid rfl underlying168 Qkp rfl rfl hi6 (mgt Qbe hj7) rfl,Qau (first:=[]) (cap:=[.ref 0 1 0 0,.ref 1 2 0 0]) (vs:=[(.dptr (Qdk (x4)) 0)]) (σr:=[Qh0,(Qhz p1 p2)]) (σr':=[Qh0,(Qhz p1 p2)]) (res':=(I x11)) [0,1] rfl Qi9 (Qg6 N x4 p1 p2 _ hf10) rfl (Qbp (rnc (.plain _ (NLt.dptr _ _ (Qha _))) (rnc (Qa0 rfl) (rnc (Qa0 rfl) rn0)))) (slc (Qam (rnc (.plain _ (NLt.fn _ _ _ nl0 nl0)) rn0)) (slc (Qam (rncc rn0)) Qat)) (slc (Qam (rnc (.plain _ (NLt.fn _ _ _ nl0 nl0)) rn0)) (slc (Qam (rncc rn0)) Qat)) (.plain _ nll) rfl rfl rfl,Qa8 (vs:=[I x9,I x11]) rfl Q2k Qz3 rfl (by rfl) rfl,tv⟩ ?_
  obtain⟨k14,hk_k14,h⟩:=jko h
  refine wjn (τ:=Int×Int) (fun t=>k14 t=some r) (fun ⟨y12,y13⟩=>⟨mk 41 [(4,.ref 2 2 0 0),(5,.ref 3 2 0 0)],[Qh0,(Qhz p1 p2),Qyf,(.own 2 [[I y12,I y13]])]⟩) (fun t h=>?_) ?_
  ·subst hk_k14
   obtain⟨y12,y13⟩:=t
   refine wxz<|wmr (mto (n:=41) (l':=[(4,.ref 2 2 0 0)]) (own':=[Qh0,(Qhz p1 p2),(.own 2 [[(I (((⟨y12,y13⟩:Qbo).Lo))),(I (((⟨y12,y13⟩:Qbo).Hi)))]])]) [(4,.ref 2 2 0 0)] [0,1,2] [Qh0,(Qhz p1 p2),(.own 2 [[I y12,I y13]])] hφ0 (prr pn) (qb (lc (.rn (Qbj rn0 rn0)) ln) (qb (lcc ln) (qb (lcc ln) qn))))<|Qah ?_
   obtain rfl:=osi h
   exact⟨_,Mor.rfl,Qdh (vs:=[(.agg [(I ((⟨y12,y13⟩:Qbo).Lo)),(I ((⟨y12,y13⟩:Qbo).Hi))])]) ⟨Qb2 (n:=2) (m:=2) (j:=0) (i:=0) (xs:=[[(I ((⟨y12,y13⟩:Qbo).Lo)),(I ((⟨y12,y13⟩:Qbo).Hi))]]) (by kernel_rfl) (by kernel_rfl) Qo7 (by decide) rfl (nle rfl) rfl,tv⟩ rfl (NLt.of0 (NLt.agg _ (nlcc nl0))) (by kernel_rfl) (Qar (Qa4 (nlc (NLt.of0 (NLt.fn _ _ _ nl0 nl0)) nl0)) (Qar (Qa4 (nlc (NLt.of0 nll) (nlc (NLt.of0 nll) nl0))) (Qar (Qa4 (nlc (NLt.of0 nll) (nlc (NLt.of0 nll) nl0))) Qbx)))⟩
  ·skip
   obtain⟨hs15,h⟩:=cko h
   refine wx tbk [(1,rp [(.tmp 19,(Q71 p0)),ci 1] (Qvl p0)),(2,rp [(.tmp 20,(Qvl p0))] (I (((p0.drop (1:Int).toNat).length:Int))))] ⟨Qjx (k:=.i64) (k':=.i64) (lo:=some (.const (.int .i64 1))) (hi:=none) (l:=1) (hh:=((p0.length:Nat):Int)) rfl underlying168 Qkp rfl (fun e=>nomatch e) (fun _=>by simp) (Qx7 hs15) (Qx6 hs15) (Zb3 (Qbe) hs15) (Zfr Qbe),alm (c:=Qbe) (l:=p0.drop (1:Int).toNat) (aln rfl underlying168 rfl),tv⟩<|Qao ?_
   refine wmr (mto (n:=41) (l':=[(1,Qrm),(4,.ref 2 2 0 0),(5,.ref 3 2 0 0),(20,(Qvl p0)),(21,(I (((p0.drop (1:Int).toNat).length:Int)))),(22,I 0)]) (own':=[Qh0,(Qhz p1 p2),Qyf,(.own 2 [[I x9,I x11]])]) [(1,Qrm),(4,.ref 2 2 0 0),(5,.ref 3 2 0 0),(20,(Qvl p0)),(21,(I (((p0.drop (1:Int).toNat).length:Int)))),(22,I 0)] [0,1,2,3] [Qh0,(Qhz p1 p2),Qyf,(.own 2 [[I x9,I x11]])] hφ0 (pc (.rn (Qbj rn0 (rnc (rqr rfl) (rnc (rqr rfl) rn0)))) (prr (prr (pc (rnd Qb1) (pw (pw pn)))))) (qb (lc (.rn (Qbj rn0 rn0)) ln) (qb (lcc ln) (qb (lcc ln) (qb (lcc ln) qn))))) ?_
   refine Qb3 (τ:=Int×Int×Int) (fun n t=>Qct N p0 p1 p2 k14 n t.1 t.2.1 t.2.2=some r) (fun ⟨y16,y17,y18⟩=>⟨mk 41 [(1,Qrm),(4,.ref 2 2 0 0),(5,.ref 3 2 0 0),(20,(Qvl p0)),(21,(I (((p0.drop (1:Int).toNat).length:Int)))),(22,I y16)],[Qh0,(Qhz p1 p2),Qyf,(.own 2 [[I y17,I y18]])]⟩) (fun t h=>by rw[Qct] at h;cases h) (fun n22 ih t h=>?_) N (0,x9,x11) h
   obtain⟨y16,y17,y18⟩:=t
   rw[Qct] at h
   skip
   refine wxz<|wsq ?_
   refine bfe h (fun hc23 h=>?_) fun hc23 h=>?_
   ·refine wft hc23<|Qap<|thn<|wsq<|Qao ?_
    obtain⟨x24,hg25,h⟩:=bno h
    obtain⟨hi26,hj27⟩:=gsm hg25
    refine wx tbk [(0,rp [(.tmp 20,(Qvl p0)),(.tmp 22,I y16)] (.dptr (Qbe (x24)) 0))] ⟨aid rfl underlying168 Qkp rfl rfl hi26 (mgt Qbe hj27) rfl,tv⟩ ?_
    obtain⟨x29,hf28,h⟩:=bno h
    obtain⟨x31,hf30,h⟩:=bno h
    refine wy1 tbk [(4,⟨[(.tmp 28,Qrm),(.tmp 29,(.dptr (Qdk (x24)) 0))],[(0,Qh0),(1,(Qhz p1 p2))],I x29,[(0,Qh0),(1,(Qhz p1 p2))],false⟩),(5,rp [(.tmp 27,I y17),(.tmp 30,I x29)] (I ((if x29<y17 then x29 else y17)))),(10,⟨[(.tmp 34,Qrm),(.tmp 35,(.dptr (Qdk (x24)) 0))],[(0,Qh0),(1,(Qhz p1 p2))],I x31,[(0,Qh0),(1,(Qhz p1 p2))],false⟩),(11,rp [(.tmp 33,I y18),(.tmp 36,I x31)] (I ((if x31>y18 then x31 else y18)))),(12,rp [(.tmp 31,(I ((if x29<y17 then x29 else y17)))),(.tmp 37,(I ((if x31>y18 then x31 else y18))))] (.agg [(I ((if x29<y17 then x29 else y17))),(I ((if x31>y18 then x31 else y18)))]))] ⟨Qau (first:=[]) (cap:=[.ref 0 1 0 0,.ref 1 2 0 0]) (vs:=[(.dptr (Qdk (x24)) 0)]) (σr:=[Qh0,(Qhz p1 p2)]) (σr':=[Qh0,(Qhz p1 p2)]) (res':=(I x29)) [0,1] rfl Qi9 (Qg6 N x24 p1 p2 _ hf28) rfl (Qbp (rnc (.plain _ (NLt.dptr _ _ (Qha _))) (rnc (Qa0 rfl) (rnc (Qa0 rfl) rn0)))) (slc (Qam (rnc (.plain _ (NLt.fn _ _ _ nl0 nl0)) rn0)) (slc (Qam (rncc rn0)) Qat)) (slc (Qam (rnc (.plain _ (NLt.fn _ _ _ nl0 nl0)) rn0)) (slc (Qam (rncc rn0)) Qat)) (.plain _ nll) rfl rfl rfl,Qmu rfl,Qau (first:=[]) (cap:=[.ref 0 1 0 0,.ref 1 2 0 0]) (vs:=[(.dptr (Qdk (x24)) 0)]) (σr:=[Qh0,(Qhz p1 p2)]) (σr':=[Qh0,(Qhz p1 p2)]) (res':=(I x31)) [0,1] rfl Qi9 (Qg6 N x24 p1 p2 _ hf30) rfl (Qbp (rnc (.plain _ (NLt.dptr _ _ (Qha _))) (rnc (Qa0 rfl) (rnc (Qa0 rfl) rn0)))) (slc (Qam (rnc (.plain _ (NLt.fn _ _ _ nl0 nl0)) rn0)) (slc (Qam (rncc rn0)) Qat)) (slc (Qam (rnc (.plain _ (NLt.fn _ _ _ nl0 nl0)) rn0)) (slc (Qam (rncc rn0)) Qat)) (.plain _ nll) rfl rfl rfl,Qlw rfl,Qa8 (vs:=[(I ((if x29<y17 then x29 else y17))),(I ((if x31>y18 then x31 else y18)))]) rfl Q2k Qz3 rfl (by rfl) rfl,tv⟩<|bln<|thn<|wxz1<|thn ?_
    exact arm (mto (n:=41) [(1,Qrm),(4,.ref 2 2 0 0),(5,.ref 3 2 0 0),(20,(Qvl p0)),(21,(I (((p0.drop (1:Int).toNat).length:Int)))),(22,(I (w64 (y16+1))))] [0,1,2,3] [Qh0,(Qhz p1 p2),Qyf,(.own 2 [[(I ((if x29<y17 then x29 else y17))),(I ((if x31>y18 then x31 else y18)))]])] hφ0 (pc (.rn (Qbj rn0 (rnc (rqr rfl) (rnc (rqr rfl) rn0)))) (prr (prr (pc (rnd Qb1) (pw (pw pn)))))) (qb (lc (.rn (Qbj rn0 rn0)) ln) (qb (lcc ln) (qb (lcc ln) (qb (lcc ln) qn))))) (ih (w64 (y16+1),(if x29<y17 then x29 else y17),(if x31>y18 then x31 else y18)) h)
   ·exact wfn hc23<|Qbl<|Qax<|Qax<|Qbk rfl<|thn<|⟨(y17,y18),h,(mto (n:=41) [(4,.ref 2 2 0 0),(5,.ref 3 2 0 0)] [0,1,2,3] [Qh0,(Qhz p1 p2),Qyf,(.own 2 [[I y17,I y18]])] hφ0 (prr (prr pn)) (qb (lc (.rn (Qbj rn0 rn0)) ln) (qb (lcc ln) (qb (lcc ln) (qb (lcc ln) qn)))))⟩
def Qif (N:Nat) (p0:(List Qbt)) (p1:Int) (p2:Int):Option Qbo:=
  (Qgn N p0 p1 p2).bind fun x5=>
  some x5
def Qyg (p0:(List Qbt)):AV:=.dat 1 ((p0:List Qbt).map Qbe)
def Qty (p1:Int) (p2:Int):Slot:=.own 2 [[(I (p1)),(I (p2))]]
def Zeh:AV:=.fn (.func 81) [] [(.ref 2 1 (0) 0),(.ref 1 2 (0) 0)]
def Q73:Slot:=.own 1 [[(.fn (.func 85) [] [])]]
def Zeg (x5:Qbo):AV:=.agg [(I (x5.Lo)),(I (x5.Hi))]
def Q72 (x5:Qbo):Slot:=.own 2 [[(I (x5.Lo)),(I (x5.Hi))]]
theorem Qq3 (N:Nat) (p0:(List Qbt)) (p1:Int) (p2:Int) (r:Qbo) (h:Qif N p0 p1 p2=some r):Spec prog 79 [(.fn (.func 85) [] []),(.ref 0 1 (0) 0),(.ref 1 2 (0) 0)] [(.own 1 [[(Qyg p0)]]),(Qty p1 p2)] (.agg [(I (r.Lo)),(I (r.Hi))]) [(.own 1 [[(Qyg p0)]]),(Qty p1 p2),(.own 2 [[(I (r.Lo)),(I (r.Hi))]])]:=by
  refine Qal func79 rfl 3 (nle rfl) (fun X φ0 w0 hφ0 hd0=>?_)
  unfold Qif at h
  refine Qbv<|wxz ?_
  obtain⟨x5,hf4,h⟩:=bno h
  refine wx tbk [(1,rp [(.tmp 3,.ref 2 1 0 0),(.tmp 2,.ref 1 2 0 0)] Zeh),(2,⟨[fu 80,(.tmp 5,(Qyg p0)),(.tmp 6,Zeh)],[(2,Q73),(1,(Qty p1 p2)),(4,.unused)],(Zeg x5),[(2,Q73),(1,(Qty p1 p2)),(4,(Q72 x5))],false⟩)] ⟨Qe2 (fs:=[]) (cs:=[.ref 2 1 0 0,.ref 1 2 0 0]) rfl rfl rfl rfl,Qau (first:=[]) (cap:=[]) (vs:=[(Qyg p0),Zeh]) (σr:=[Q73,(Qty p1 p2)]) (σr':=[Q73,(Qty p1 p2),(Q72 x5)]) (res':=(Zeg x5)) [2,1,4] rfl Q0w (Qnc N p0 p1 p2 _ hf4) rfl (Qbp (rnc (pld Qb1) (rnc (Qbj rn0 (rnc (Qa0 rfl) (rnc (Qa0 rfl) rn0))) rn0))) (slc (Qam (rnc (.plain _ (NLt.fn _ _ _ nl0 nl0)) rn0)) (slc (Qam (rncc rn0)) Qat)) (slc (Qam (rnc (.plain _ (NLt.fn _ _ _ nl0 nl0)) rn0)) (slc (Qam (rncc rn0)) (slc (Qam (rncc rn0)) Qat))) (.plain _ (NLt.agg _ (nlcc nl0))) rfl rfl rfl,tv⟩ ?_
  refine wmr (mto (n:=8) (l':=[(4,.ref 2 2 0 0)]) (own':=[(.own 1 [[(Qyg p0)]]),(Qty p1 p2),(Q72 x5)]) [(4,.ref 3 2 0 0)] [0,1,3] [(.own 1 [[(Qyg p0)]]),(Qty p1 p2),(Q72 x5)] hφ0 (prr pn) (qb (lc (rnd Qb1) ln) (qb (lcc ln) (qb (lcc ln) qn))))<|Qah ?_
  obtain rfl:=osi h
  exact⟨_,Mor.rfl,Qdh (vs:=[(Zeg x5)]) ⟨Qb2 (n:=2) (m:=2) (j:=0) (i:=0) (xs:=[[I x5.Lo,I x5.Hi]]) (by kernel_rfl) (by kernel_rfl) Qo7 (by decide) rfl (nle rfl) rfl,tv⟩ rfl (NLt.of0 (NLt.agg _ (nlcc nl0))) (by kernel_rfl) (Qar (Qa4 (nlc (NLt.of0 (nld Qb1 _)) nl0)) (Qar (Qa4 (nlc (NLt.of0 nll) (nlc (NLt.of0 nll) nl0))) (Qar (Qa4 (nlc (NLt.of0 nll) (nlc (NLt.of0 nll) nl0))) Qbx)))⟩
def Qdz (N:Nat) (x5:((List Qbt)×Bool)) (k8:(List Qet)→Option ((List Qet)×Int)):(List Qa6)→(List Qet)→Option ((List Qet)×Int)
  |[],y13=>
    k8 (y13)
  |x16::q17,y13=>
    (Qii N x5.1 x16.Element x16.Outlet).bind fun x26=>
    (Qih N x5.1 x16.Element x16.Outlet).bind fun x28=>
    (Qig N x5.1 x16.Element x16.Outlet).bind fun x30=>
    (Qif N x5.1 x16.Element x16.Outlet).bind fun x32=>
    chk (decide ((y13.length+([(⟨x26,x28,x30,x32⟩:Qet)]).length)*64≤140737488355328))<|
    Qdz N x5 k8 q17 (y13++([(⟨x26,x28,x30,x32⟩:Qet)]))
def Qlr (N:Nat) (p0:GNet) (p1:(List Int)) (p2:(List (List Qaa))):Option ((List Qet)×Int):=
  (Qku N p0 p1 p2).bind fun x2=>
  bif (x2 != 0) then
   some ([],x2)
  else
   (Qij N p0 p1 p2).bind fun x5=>
   bif (!x5.2) then
    some ([],11)
   else
    Qbn (fun y7=>
      some (y7,0)) fun k8:(List Qet)→Option ((List Qet)×Int)=>
    (Qgv N p0).bind fun x10=>
    (Qf6 N p0.Table p0.Elements x10).bind fun q11=>
    Qdz N x5 k8 q11 ([])
def Znt (p0:GNet):AV:=.dat 7 ((p0.Elements:List Qad).map Qai)
def Q8h (p0:GNet):AV:=.agg [(.dat 5 ((p0.Table:List GRow).map Qa7)),(Znt p0)]
def Zns (p1:(List Int)):AV:=.dat 1 ((p1:List Int).map Qav)
def Znr (p2:(List (List Qaa))):AV:=.dat 1 ((p2:List (List Qaa)).map Qaf)
def Zer:AV:=.dat 8 (([]:List Qet).map Qf2)
def Qi5 (x5:((List Qbt)×Bool)):AV:=.dat 1 ((x5.1:List Qbt).map Qbe)
def Zes:AV:=.fn (.func 110) [] [(.ref 3 2 (0) 0),(.ref 4 1 (0) 0)]
def Q2a (p0:GNet):Slot:=.own 2 [[(.dat 5 ((p0.Table:List GRow).map Qa7)),(Znt p0)]]
def Q46 (y13:(List Qet)):AV:=.acc 5 110 8 ((y13:List Qet).map Qf2)
def Qvs:AV:=.fn (.func 79) [] [(.ref 0 1 (0) 0),(.ref 7 2 (0) 0)]
def Qi7 (x16:Qa6):Slot:=.own 2 [[(I (x16.Element)),(I (x16.Outlet))]]
def Qzy (x26:Qbo):AV:=.agg [(I (x26.Lo)),(I (x26.Hi))]
def Qzx (x28:Qbo):AV:=.agg [(I (x28.Lo)),(I (x28.Hi))]
def Qzw (x30:Qbo):AV:=.agg [(I (x30.Lo)),(I (x30.Hi))]
def Qzv (x32:Qbo):AV:=.agg [(I (x32.Lo)),(I (x32.Hi))]
def Q45 (x26:Qbo) (x28:Qbo) (x30:Qbo) (x32:Qbo):AV:=.agg [(I (x26.Lo)),(I (x26.Hi)),(I (x28.Lo)),(I (x28.Hi)),(I (x30.Lo)),(I (x30.Hi)),(I (x32.Lo)),(I (x32.Hi))]
theorem Qwn (N:Nat) (p0:GNet) (p1:(List Int)) (p2:(List (List Qaa))) (r:((List Qet)×Int)) (h:Qlr N p0 p1 p2=some r):Spec prog 40 [(.agg (Qhv p0)),(.dat 1 (p1.map Qav)),(.dat 1 (p2.map Qaf))] [] (.tup [(.dat 8 (r.1.map Qf2)),(I r.2)]) []:=by
  refine Qal func40 rfl 0 (nle rfl) (fun X φ0 w0 hφ0 hd0=>?_)
  unfold Qlr at h
  refine wxz<|wsq ?_
  obtain⟨x2,hf1,h⟩:=bno h
  refine wx tbk [(3,rp [fu 77,(.tmp 14,(Q8h p0)),(.tmp 15,(Zns p1)),(.tmp 16,(Znr p2))] (I x2))] ⟨apv Zhg (Qql N p0 p1 p2 _ hf1) (nlc (NLt.agg _ (nlc (nld Qan _) (nlc (nld Qab _) nl0))) (nlc (nld Qaj _) (nlc (nld Qag _) nl0))) nll,tv⟩<|wxz ?_
  refine bfe h (fun hc3 h=>?_) fun hc3 h=>?_
  ·refine wft hc3<|wxz<|Qah<|Qac ?_
   obtain rfl:=osi h
   exact fend ⟨[Zer,I x2],⟨Qep (v:=nilS) (rot) Less.nil,rot,tv⟩,rfl⟩ (NLt.tup _ (nlc (nld Qcq _) (nlc nll nl0)))
  ·refine wfn hc3<|Qap<|thn ?_
   obtain⟨x5,hf4,h⟩:=bno h
   refine wx tbk [(3,rp [fu 78,(.tmp 22,(Q8h p0)),(.tmp 23,(Zns p1)),(.tmp 24,(Znr p2))] (.tup [(Qi5 x5),B x5.2]))] ⟨apv Zhf (Qnt N p0 p1 p2 _ hf4) (nlc (NLt.agg _ (nlc (nld Qan _) (nlc (nld Qab _) nl0))) (nlc (nld Qaj _) (nlc (nld Qag _) nl0))) (NLt.tup _ (nlc (nld Qb1 _) (nlc nll nl0))),tv⟩<|wsq<|wxz ?_
   refine bfe h (fun hc6 h=>?_) fun hc6 h=>?_
   ·refine wft hc6<|wxz<|Qah<|Qac ?_
    obtain rfl:=osi h
    exact fend ⟨[Zer,I 11],⟨Qep (v:=nilS) (rot) Less.nil,rot,tv⟩,rfl⟩ (NLt.tup _ (nlc (nld Qcq _) (nlc nll nl0)))
   ·refine wfn hc6<|Qap<|thn<|wxz ?_
    obtain⟨k8,hk_k8,h⟩:=jko h
    refine wjn (τ:=(List Qet)) (fun t=>k8 t=some r) (fun y7=>⟨mk 47 [(11,.ref 0 1 0 0)],[(.own 1 [[(.acc 1 110 8 ((y7:List Qet).map Qf2))]]),.tok]⟩) (fun y7 h=>?_) ?_
    ·subst hk_k8
     refine wxz<|Qah ?_
     obtain rfl:=osi h
     exact fend ⟨[(.dat 8 ((y7:List Qet).map Qf2)),I 0],⟨Qep (v:=(.acc 1 110 8 ((y7:List Qet).map Qf2))) (rot) Less.acc,rot,tv⟩,rfl⟩ (NLt.tup _ (nlc (nld Qcq _) (nlc nll nl0)))
    ·skip
     obtain⟨x10,hf9,h⟩:=bno h
     refine wx tbk [(1,⟨[fu 75,(.tmp 30,(Q8h p0))],[(3,.unused),(4,.unused),(5,.unused)],Zes,[(3,(Q2a p0)),(4,(.own 1 [[(.mp 5)]])),(5,(Qea x10))],false⟩)] ⟨Qau (first:=[]) (cap:=[]) (vs:=[(Q8h p0)]) (σr:=[]) (σr':=[(Q2a p0),(.own 1 [[(.mp 5)]]),(Qea x10)]) (res':=Zes) [3,4,5] rfl Zhh (Qmq N p0 _ hf9) rfl (Qbp (rnc (.plain _ (NLt.agg _ (nlc (nld Qan _) (nlc (nld Qab _) nl0)))) rn0)) Qat (slc (Qam (rnc (pld Qan) (rnc (pld Qab) rn0))) (slc (Qam (rnc (Q8m rfl) rn0)) (slc Qps Qat))) (Qbj rn0 (rnc (Qby rfl) (rnc (Qby rfl) rn0))) rfl rfl rfl,tv⟩<|Qao ?_
     obtain⟨q11,hL12,h⟩:=bno h
     refine wmr (mto (n:=47) (l':=[(9,.ref 0 1 0 0),(11,.ref 1 1 0 0),(31,(.fn (.func 110) [] [.ref 2 2 0 0,.ref 3 1 0 0]))]) (own':=[(.own 1 [[(Qi5 x5)]]),(.own 1 [[nilS]]),(Q2a p0),(.own 1 [[(.mp 4)]]),(Qea x10)]) [(9,.ref 1 1 0 0),(11,.ref 2 1 0 0),(31,Zes)] [1,2,3,4,5] [(.own 1 [[(Qi5 x5)]]),(.own 1 [[nilS]]),(Q2a p0),(.own 1 [[(.mp 5)]]),(Qea x10)] hφ0 (prr (prr (pc (.rn (Qbj rn0 (rnc (rqr rfl) (rnc (rqr rfl) rn0)))) pn))) (qb (lc (rnd Qb1) ln) (qb (lc rwl ln) (qb (lc (rnd Qan) (lc (rnd Qab) ln)) (qb (lc (.rn (Qjr rfl)) ln) (qc Qfy qn)))))) ?_
     refine wmr (Qsa (n:=5) (ty:=110) (m:=8) (q:=1) (mq:=1) (c:=[nilS]) 0 (by kernel_rfl) (by kernel_rfl) (by kernel_rfl) (by decide)) ?_
     refine Qtt (τ:=((List Qet))) (kb:=5) (caps:=[.ref 2 2 0 0,.ref 3 1 0 0]) (σr:=[(Q2a p0),(.own 1 [[(.mp 4)]]),(Qea x10)]) (encs:=fun x=>[(.agg #[(.int .i64 (x.Element)),(.int .i64 (x.Outlet))])]) (fun x=>[(.agg [I x.Element,I x.Outlet])]) [2,3,4] (fun n hn=>hφ0 n (Nat.le_trans (nle rfl) hn)) hd0 (Qmp N p0.Table p0.Elements x10 _ hL12) Q9j (by kernel_rfl) (by kernel_rfl) (Qbp (rnc (Qby rfl) (rnc (Qby rfl) rn0))) (slc (Qam (rnc (pld Qan) (rnc (pld Qab) rn0))) (slc (Qam (rnc (Q8m rfl) rn0)) (slc Qps Qat))) (by kernel_rfl) (fun _=>rfl) (fun x=>⟨(Less.unlits [(.int .i64 (x.Element)),(.int .i64 (x.Outlet))]),tv⟩) (Zgg (Qob (NLt.ref _ _ _ _ (by decide)) (Qob (NLt.ref _ _ _ _ (by decide)) (Qob (NLt.fn _ _ _ nl0 (nlc (NLt.ref _ _ _ _ (by decide)) (nlc (NLt.ref _ _ _ _ (by decide)) nl0))) Q5y)))) (fun y13=>[(.own 1 [[(Qi5 x5)]]),(.own 1 [[(Q46 y13)]]),.dead,.dead,.dead,.tok]) (fun _=>rfl) (fun _=>rfl) (fun l t=>Qdz N x5 k8 l t=some r) ([]) h (by kernel_rfl) ?_ ?_
     ·intro l18 o19 X22 φ23 w24 hφ21 x16 q17 y13 h
      rw[Qdz] at h
      refine wxz1 ?_
      refine⟨by kernel_rfl,fun o20=>?_⟩
      refine Qao<|wx tbk [(0,rp [(.tmp 9,.ref 0 1 0 0),(.tmp 12,.ref 7 2 0 0)] Qvs)] ⟨Qe2 (fs:=[]) (cs:=[.ref 0 1 0 0,.ref 7 2 0 0]) rfl rfl rfl rfl,tv⟩ ?_
      obtain⟨x26,hf25,h⟩:=bno h
      obtain⟨x28,hf27,h⟩:=bno h
      obtain⟨x30,hf29,h⟩:=bno h
      obtain⟨x32,hf31,h⟩:=bno h
      obtain⟨ha33,h⟩:=cko h
      refine wy1 tbk [(2,⟨[(.tmp 35,Qvs),fu 82],[(0,(.own 1 [[(Qi5 x5)]])),(7,(Qi7 x16)),(8,.unused)],(Qzy x26),[(0,(.own 1 [[(Qi5 x5)]])),(7,(Qi7 x16)),(8,.own 2 [[I x26.Lo,I x26.Hi]])],false⟩),(4,⟨[(.tmp 37,Qvs),fu 83],[(0,(.own 1 [[(Qi5 x5)]])),(7,(Qi7 x16)),(9,.unused)],(Qzx x28),[(0,(.own 1 [[(Qi5 x5)]])),(7,(Qi7 x16)),(9,.own 2 [[I x28.Lo,I x28.Hi]])],false⟩),(6,⟨[(.tmp 39,Qvs),fu 84],[(0,(.own 1 [[(Qi5 x5)]])),(7,(Qi7 x16)),(10,.unused)],(Qzw x30),[(0,(.own 1 [[(Qi5 x5)]])),(7,(Qi7 x16)),(10,.own 2 [[I x30.Lo,I x30.Hi]])],false⟩),(8,⟨[(.tmp 41,Qvs),fu 85],[(0,(.own 1 [[(Qi5 x5)]])),(7,(Qi7 x16)),(11,.unused)],(Qzv x32),[(0,(.own 1 [[(Qi5 x5)]])),(7,(Qi7 x16)),(11,.own 2 [[I x32.Lo,I x32.Hi]])],false⟩),(9,rp [(.tmp 36,(Qzy x26)),(.tmp 38,(Qzx x28)),(.tmp 40,(Qzw x30)),(.tmp 42,(Qzv x32))] (Q45 x26 x28 x30 x32)),(10,rp [(.tmp 43,(Q45 x26 x28 x30 x32))] (.dat 8 (([(⟨x26,x28,x30,x32⟩:Qet)]:List Qet).map Qf2))),(11,⟨[(.tmp 34,(Q46 y13)),(.tmp 44,(.dat 8 (([(⟨x26,x28,x30,x32⟩:Qet)]:List Qet).map Qf2)))],[(5,.tok),(12,.unused)],(.acc 12 110 8 ((y13++([(⟨x26,x28,x30,x32⟩:Qet)]):List Qet).map Qf2)),[(5,.dead),(12,.tok)],false⟩)] ⟨Qau (first:=[]) (cap:=[.ref 0 1 0 0,.ref 7 2 0 0]) (vs:=[(.fn (.func 82) [] [])]) (σr:=[(.own 1 [[(Qi5 x5)]]),(Qi7 x16)]) (σr':=[(.own 1 [[(Qi5 x5)]]),(Qi7 x16),(.own 2 [[I x26.Lo,I x26.Hi]])]) (res':=(Qzy x26)) [0,7,8] rfl Q0x (Qq6 N x5.1 x16.Element x16.Outlet _ hf25) rfl (Qbp (rnc (.plain _ (NLt.fn _ _ _ nl0 nl0)) (rnc (Qa0 rfl) (rnc (Qa0 rfl) rn0)))) (slc (Qam (rnc (pld Qb1) rn0)) (slc (Qam (rncc rn0)) Qat)) (slc (Qam (rnc (pld Qb1) rn0)) (slc (Qam (rncc rn0)) (slc (Qam (rncc rn0)) Qat))) (.plain _ (NLt.agg _ (nlcc nl0))) rfl rfl rfl,Qau (first:=[]) (cap:=[.ref 0 1 0 0,.ref 7 2 0 0]) (vs:=[(.fn (.func 83) [] [])]) (σr:=[(.own 1 [[(Qi5 x5)]]),(Qi7 x16)]) (σr':=[(.own 1 [[(Qi5 x5)]]),(Qi7 x16),(.own 2 [[I x28.Lo,I x28.Hi]])]) (res':=(Qzx x28)) [0,7,9] rfl Q0x (Qq5 N x5.1 x16.Element x16.Outlet _ hf27) rfl (Qbp (rnc (.plain _ (NLt.fn _ _ _ nl0 nl0)) (rnc (Qa0 rfl) (rnc (Qa0 rfl) rn0)))) (slc (Qam (rnc (pld Qb1) rn0)) (slc (Qam (rncc rn0)) Qat)) (slc (Qam (rnc (pld Qb1) rn0)) (slc (Qam (rncc rn0)) (slc (Qam (rncc rn0)) Qat))) (.plain _ (NLt.agg _ (nlcc nl0))) rfl rfl rfl,Qau (first:=[]) (cap:=[.ref 0 1 0 0,.ref 7 2 0 0]) (vs:=[(.fn (.func 84) [] [])]) (σr:=[(.own 1 [[(Qi5 x5)]]),(Qi7 x16)]) (σr':=[(.own 1 [[(Qi5 x5)]]),(Qi7 x16),(.own 2 [[I x30.Lo,I x30.Hi]])]) (res':=(Qzw x30)) [0,7,10] rfl Q0x (Qq4 N x5.1 x16.Element x16.Outlet _ hf29) rfl (Qbp (rnc (.plain _ (NLt.fn _ _ _ nl0 nl0)) (rnc (Qa0 rfl) (rnc (Qa0 rfl) rn0)))) (slc (Qam (rnc (pld Qb1) rn0)) (slc (Qam (rncc rn0)) Qat)) (slc (Qam (rnc (pld Qb1) rn0)) (slc (Qam (rncc rn0)) (slc (Qam (rncc rn0)) Qat))) (.plain _ (NLt.agg _ (nlcc nl0))) rfl rfl rfl,Qau (first:=[]) (cap:=[.ref 0 1 0 0,.ref 7 2 0 0]) (vs:=[(.fn (.func 85) [] [])]) (σr:=[(.own 1 [[(Qi5 x5)]]),(Qi7 x16)]) (σr':=[(.own 1 [[(Qi5 x5)]]),(Qi7 x16),(.own 2 [[I x32.Lo,I x32.Hi]])]) (res':=(Qzv x32)) [0,7,11] rfl Q0x (Qq3 N x5.1 x16.Element x16.Outlet _ hf31) rfl (Qbp (rnc (.plain _ (NLt.fn _ _ _ nl0 nl0)) (rnc (Qa0 rfl) (rnc (Qa0 rfl) rn0)))) (slc (Qam (rnc (pld Qb1) rn0)) (slc (Qam (rncc rn0)) Qat)) (slc (Qam (rnc (pld Qb1) rn0)) (slc (Qam (rncc rn0)) (slc (Qam (rncc rn0)) Qat))) (.plain _ (NLt.agg _ (nlcc nl0))) rfl rfl rfl,Qa8 (vs:=[(Qzy x26),(Qzx x28),(Qzw x30),(Qzv x32)]) rfl Zvz Zqv rfl (by rfl) rfl,Qb7 (vs:=[(Q45 x26 x28 x30 x32)]) rfl underlying96 Zqz Zqv rfl (by decide) rfl (by decide) (by rfl) (by rfl) (by rfl) rfl,Qhc rfl underlying96 Zwi (Base.acc _ _) rfl rfl (by rfl) (Qko Qf2 ha33) (Qkn Qf2 ha33 (by decide)) (Qkm Qf2) rfl rfl,tv⟩<|bln ?_
      exact⟨(y13++([(⟨x26,x28,x30,x32⟩:Qet)])),h,Zf4 (own':=[(.own 1 [[(Qi5 x5)]]),(.own 1 [[(.acc 5 110 8 (((y13++([(⟨x26,x28,x30,x32⟩:Qet)])):List Qet).map Qf2))]]),.dead,.dead,.dead,.tok,(.far (farL l18 o20))]) [0,1,2,3,4,12,6] [(.own 1 [[(Qi5 x5)]]),(.own 1 [[(.acc 12 110 8 ((y13++([(⟨x26,x28,x30,x32⟩:Qet)]):List Qet).map Qf2))]]),.dead,.dead,.dead,.tok,(.far (farL l18 o20))] (by kernel_rfl) (by kernel_rfl) ⟨(spb (lc (rnd Qb1) ln)),(spb (lc (.rn (Qdb rfl (Qcb Qcq _))) ln)),.dead,.dead,.dead,.tok,.far _,tv⟩⟩
     ·intro y13 h
      rw[Qdz] at h
      exact bln<|thn<|⟨(y13),h,(mto (n:=47) [(11,.ref 1 1 0 0)] [1,5] [(.own 1 [[(Q46 y13)]]),.tok] hφ0 (prr pn) (qb (lc (.rn (Qdb rfl (Qcb Qcq _))) ln) (qc .tok qn)))⟩
def Qfe (N:Nat) (y2:Int) (k6:Unit→Option (Int×Int)) (x7:Qbt):Nat→Int→Option (Int×Int)
  |0,_=>none
  |n13+1,y11=>
    bif (decide (y11<(x7.Tick.Lost.length:Int))) then
     (getI x7.Tick.Lost y11).bind fun x15=>
     bif (decide (x15.Scale>0)) then
      some (y2,y11)
     else
      Qfe N y2 k6 x7 n13 (w64 (y11+1))
    else
     k6 ()
def Qff (N:Nat) (p0:(List Qbt)) (k1:Unit→Option (Int×Int)):Nat→Int→Option (Int×Int)
  |0,_=>none
  |n4+1,y2=>
    bif (decide (y2<(p0.length:Int))) then
     Qbn (fun _=>
       Qff N p0 k1 n4 (w64 (y2+1))) fun k6:Unit→Option (Int×Int)=>
     (getI p0 y2).bind fun x7=>
     Qfe N y2 k6 x7 N 0
    else
     k1 ()
def Qlp (N:Nat) (p0:(List Qbt)):Option (Int×Int):=
  Qbn (fun _=>
    some ((-1),(-1))) fun k1:Unit→Option (Int×Int)=>
  Qff N p0 k1 N 0
def Qon (p0:(List Qbt)):AV:=.dat 1 ((p0:List Qbt).map Qbe)
def Qs3 (x7:Qbt):AV:=.dat 4 ((x7.Tick.Lost:List Qa1).map Qbf)
theorem Qwk (N:Nat) (p0:(List Qbt)) (r:(Int×Int)) (h:Qlp N p0=some r):Spec prog 86 [(.dat 1 (p0.map Qbe))] [] (.tup [(I r.1),(I r.2)]) []:=by
  refine Qal func86 rfl 0 (nle rfl) (fun X φ0 w0 hφ0 hd0=>?_)
  unfold Qlp at h
  refine wxz ?_
  obtain⟨k1,hk_k1,h⟩:=jko h
  refine wjn (τ:=Unit) (fun t=>k1 t=some r) (fun _=>⟨mk 33 [],[]⟩) (fun t h=>?_) ?_
  ·subst hk_k1
   refine wxz<|Qah ?_
   obtain rfl:=osi h
   exact fend ⟨[(I ((-1))),(I ((-1)))],⟨rot,rot,tv⟩,rfl⟩ (NLt.tup _ (nlcc nl0))
  ·skip
   refine wx tbk [(1,rp [(.tmp 8,(Qon p0))] (I ((p0.length:Int))))] ⟨alm (c:=Qbe) (l:=p0) (aln rfl underlying168 rfl),tv⟩<|Qao ?_
   refine wmr (mto (n:=33) (l':=[(8,(Qon p0)),(9,(I ((p0.length:Int)))),(10,I 0)]) (own':=[]) [(8,(Qon p0)),(9,(I ((p0.length:Int)))),(10,I 0)] [] [] hφ0 (pc (rnd Qb1) (pw (pw pn))) qn) ?_
   refine Qb3 (τ:=Int) (fun n t=>Qff N p0 k1 n t=some r) (fun y2=>⟨mk 33 [(8,(Qon p0)),(9,(I ((p0.length:Int)))),(10,I y2)],[]⟩) (fun t h=>by rw[Qff] at h;cases h) (fun n4 ih y2 h=>?_) N (0) h
   rw[Qff] at h
   skip
   refine wxz<|wsq ?_
   refine bfe h (fun hc5 h=>?_) fun hc5 h=>?_
   ·refine wft hc5<|Qap<|thn ?_
    obtain⟨k6,hk_k6,h⟩:=jko h
    refine wjn (τ:=Unit) (fun t=>k6 t=some r) (fun _=>⟨mk 33 [(8,(Qon p0)),(9,(I ((p0.length:Int)))),(10,I y2)],[]⟩) (fun t h=>?_) ?_
    ·subst hk_k6
     exact wxz1<|thn<|arm (mto (n:=33) [(8,(Qon p0)),(9,(I ((p0.length:Int)))),(10,(I (w64 (y2+1))))] [] [] hφ0 (pc (rnd Qb1) (pw (pw pn))) qn) (ih (w64 (y2+1)) h)
    ·skip
     refine Qao ?_
     obtain⟨x7,hg8,h⟩:=bno h
     obtain⟨hi9,hj10⟩:=gsm hg8
     refine wx tbk [(1,rp [(.tmp 8,(Qon p0)),(.tmp 10,I y2)] (.dptr (Qbe (x7)) 0))] ⟨aid rfl underlying168 Qkp rfl rfl hi9 (mgt Qbe hj10) rfl,tv⟩ ?_
     refine wx tbk [(5,rp [(.tmp 19,(Qs3 x7))] (I ((x7.Tick.Lost.length:Int))))] ⟨alm (c:=Qbf) (l:=x7.Tick.Lost) (aln rfl underlying32 rfl),tv⟩<|Qao ?_
     refine wmr (mto (n:=33) (l':=[(4,I y2),(8,(Qon p0)),(9,(I ((p0.length:Int)))),(10,I y2),(19,(Qs3 x7)),(20,(I ((x7.Tick.Lost.length:Int)))),(21,I 0)]) (own':=[]) [(4,I y2),(8,(Qon p0)),(9,(I ((p0.length:Int)))),(10,I y2),(19,(Qs3 x7)),(20,(I ((x7.Tick.Lost.length:Int)))),(21,I 0)] [] [] hφ0 (pw (pc (rnd Qb1) (pw (pw (pc (rnd Qay) (pw (pw pn))))))) qn) ?_
     refine Qb3 (τ:=Int) (fun n t=>Qfe N y2 k6 x7 n t=some r) (fun y11=>⟨mk 33 [(4,I y2),(8,(Qon p0)),(9,(I ((p0.length:Int)))),(10,I y2),(19,(Qs3 x7)),(20,(I ((x7.Tick.Lost.length:Int)))),(21,I y11)],[]⟩) (fun t h=>by rw[Qfe] at h;cases h) (fun n13 ih y11 h=>?_) N (0) h
     rw[Qfe] at h
     skip
     refine wxz<|wsq ?_
     refine bfe h (fun hc14 h=>?_) fun hc14 h=>?_
     ·refine wft hc14<|Qap<|thn<|wsq<|Qao ?_
      obtain⟨x15,hg16,h⟩:=bno h
      obtain⟨hi17,hj18⟩:=gsm hg16
      refine wx tbk [(1,rp [(.tmp 19,(Qs3 x7)),(.tmp 21,I y11)] (.dptr (Qbf (x15)) 0))] ⟨aid rfl underlying32 ti82 rfl rfl hi17 (mgt Qbf hj18) rfl,tv⟩<|wxz ?_
      refine bfe h (fun hc19 h=>?_) fun hc19 h=>?_
      ·refine wft hc19<|wxz<|Qah<|Qaq<|Qac<|Qac<|Qaq<|Qaq<|Qac<|Qac ?_
       refine Qaq<|Qac ?_
       obtain rfl:=osi h
       exact fend ⟨[I y2,I y11],⟨rot,rot,tv⟩,rfl⟩ (NLt.tup _ (nlcc nl0))
      ·exact wfn hc19<|Qap<|bln<|thn<|wxz1<|thn<|arm (mto (n:=33) [(4,I y2),(8,(Qon p0)),(9,(I ((p0.length:Int)))),(10,I y2),(19,(Qs3 x7)),(20,(I ((x7.Tick.Lost.length:Int)))),(21,(I (w64 (y11+1))))] [] [] hφ0 (pw (pc (rnd Qb1) (pw (pw (pc (rnd Qay) (pw (pw pn))))))) qn) (ih (w64 (y11+1)) h)
     ·exact wfn hc14<|Qbl<|Qax<|Qax<|Qbk rfl<|bln<|thn<|⟨(),h,(mto (n:=33) [(8,(Qon p0)),(9,(I ((p0.length:Int)))),(10,I y2)] [] [] hφ0 (pc (rnd Qb1) (pw (pw pn))) qn)⟩
   ·exact wfn hc5<|Qbl<|Qax<|Qax<|Qbk rfl<|thn<|⟨(),h,(mto (n:=33) [] [] [] hφ0 pn qn)⟩
def Qlq (N:Nat) (p0:GNet) (p1:(List Int)) (p2:(List (List Qaa))):Option (Int×Int×Int):=
  (Qku N p0 p1 p2).bind fun x2=>
  bif (x2 != 0) then
   some (0,0,x2)
  else
   (Qij N p0 p1 p2).bind fun x5=>
   bif (!x5.2) then
    some (0,0,11)
   else
    (Qlp N x5.1).bind fun x8=>
    some (x8.1,x8.2,0)
def Zt3 (p0:GNet):AV:=.dat 7 ((p0.Elements:List Qad).map Qai)
def Znn (p0:GNet):AV:=.agg [(.dat 5 ((p0.Table:List GRow).map Qa7)),(Zt3 p0)]
def Znm (p1:(List Int)):AV:=.dat 1 ((p1:List Int).map Qav)
def Znl (p2:(List (List Qaa))):AV:=.dat 1 ((p2:List (List Qaa)).map Qaf)
def Znk (x5:((List Qbt)×Bool)):AV:=.dat 1 ((x5.1:List Qbt).map Qbe)
theorem Qwl (N:Nat) (p0:GNet) (p1:(List Int)) (p2:(List (List Qaa))) (r:(Int×Int×Int)) (h:Qlq N p0 p1 p2=some r):Spec prog 42 [(.agg (Qhv p0)),(.dat 1 (p1.map Qav)),(.dat 1 (p2.map Qaf))] [] (.tup [(I r.1),(I r.2.1),(I r.2.2)]) []:=by
  refine Qal func42 rfl 0 (nle rfl) (fun X φ0 w0 hφ0 hd0=>?_)
  unfold Qlq at h
  refine wxz<|wsq ?_
  obtain⟨x2,hf1,h⟩:=bno h
  refine wx tbk [(3,rp [fu 77,(.tmp 12,(Znn p0)),(.tmp 13,(Znm p1)),(.tmp 14,(Znl p2))] (I x2))] ⟨apv Zhg (Qql N p0 p1 p2 _ hf1) (nlc (NLt.agg _ (nlc (nld Qan _) (nlc (nld Qab _) nl0))) (nlc (nld Qaj _) (nlc (nld Qag _) nl0))) nll,tv⟩<|wxz ?_
  refine bfe h (fun hc3 h=>?_) fun hc3 h=>?_
  ·refine wft hc3<|wxz<|Qah<|Qac ?_
   obtain rfl:=osi h
   exact fend ⟨[I 0,I 0,I x2],⟨rot,rot,rot,tv⟩,rfl⟩ (NLt.tup _ (nlcc (nlc nll nl0)))
  ·refine wfn hc3<|Qap<|thn ?_
   obtain⟨x5,hf4,h⟩:=bno h
   refine wx tbk [(3,rp [fu 78,(.tmp 20,(Znn p0)),(.tmp 21,(Znm p1)),(.tmp 22,(Znl p2))] (.tup [(Znk x5),B x5.2]))] ⟨apv Zhf (Qnt N p0 p1 p2 _ hf4) (nlc (NLt.agg _ (nlc (nld Qan _) (nlc (nld Qab _) nl0))) (nlc (nld Qaj _) (nlc (nld Qag _) nl0))) (NLt.tup _ (nlc (nld Qb1 _) (nlc nll nl0))),tv⟩<|wsq<|wxz ?_
   refine bfe h (fun hc6 h=>?_) fun hc6 h=>?_
   ·refine wft hc6<|wxz<|Qah<|Qac ?_
    obtain rfl:=osi h
    exact fend ⟨[I 0,I 0,I 11],⟨rot,rot,rot,tv⟩,rfl⟩ (NLt.tup _ (nlcc (nlc nll nl0)))
   ·refine wfn hc6<|Qap<|thn ?_
    obtain⟨x8,hf7,h⟩:=bno h
    refine wx tbk [(1,rp [fu 86,(.tmp 29,(Znk x5))] (.tup [I x8.1,I x8.2]))] ⟨apv Zr0 (Qwk N x5.1 _ hf7) (nlc (nld Qb1 _) nl0) (NLt.tup _ (nlcc nl0)),tv⟩<|wxz<|Qah ?_
    obtain rfl:=osi h
    exact fend ⟨[I x8.1,I x8.2,I 0],⟨rot,rot,rot,tv⟩,rfl⟩ (NLt.tup _ (nlcc (nlc nll nl0)))
def Qdx (N:Nat) (p0:GNet) (p1:(List (List Qaa))) (k2:Unit→Option Int):Nat→Int→Option Int
  |0,_=>none
  |n5+1,y3=>
    bif (decide (y3<(p1.length:Int))) then
     (getI p1 y3).bind fun x7=>
     (Qie N p0 x7).bind fun x12=>
     bif (x12 != 0) then
      some x12
     else
      Qdx N p0 p1 k2 n5 (w64 (y3+1))
    else
     k2 ()
def Qi2 (N:Nat) (p0:GNet) (p1:(List (List Qaa))):Option Int:=
  Qbn (fun _=>
    Qbn (fun _=>
      some 0) fun k2:Unit→Option Int=>
    Qdx N p0 p1 k2 N 0) fun k1:Unit→Option Int=>
  bif (decide ((p1.length:Int)<1)) then
   some 3
  else
   bif (decide ((p1.length:Int)>6)) then
    some 3
   else
    k1 ()
def Qo2 (p1:(List (List Qaa))):AV:=.dat 1 ((p1:List (List Qaa)).map Qaf)
def Znj (p0:GNet):AV:=.dat 5 ((p0.Table:List GRow).map Qa7)
def Zni (p0:GNet):AV:=.dat 7 ((p0.Elements:List Qad).map Qai)
def Qye (p0:GNet):Slot:=.own 2 [[(Znj p0),(Zni p0)]]
theorem Qp8 (N:Nat) (p0:GNet) (p1:(List (List Qaa))) (r:Int) (h:Qi2 N p0 p1=some r):Spec prog 87 [(.agg (Qhv p0)),(.dat 1 (p1.map Qaf))] [] (I r) []:=by
  refine Qal func87 rfl 0 (nle rfl) (fun X φ0 w0 hφ0 hd0=>?_)
  unfold Qi2 at h
  refine wxz ?_
  obtain⟨k1,hk_k1,h⟩:=jko h
  refine wjn (τ:=Unit) (fun t=>k1 t=some r) (fun _=>⟨mk 30 [(1,(Qo2 p1)),(2,.ref 0 2 0 0)],[(Qye p0)]⟩) (fun t h=>?_) ?_
  ·subst hk_k1
   obtain⟨k2,hk_k2,h⟩:=jko h
   refine wjn (τ:=Unit) (fun t=>k2 t=some r) (fun _=>⟨mk 30 [],[]⟩) (fun t h=>?_) ?_
   ·subst hk_k2
    refine wxz<|Qah ?_
    obtain rfl:=osi h
    exact fend ⟨[I 0],⟨rot,tv⟩,rfl⟩ nll
   ·skip
    refine wxz<|Qao ?_
    refine wmr (mto (n:=30) (l':=[(1,(Qo2 p1)),(2,.ref 0 2 0 0),(5,I 0)]) (own':=[(Qye p0)]) [(1,(Qo2 p1)),(2,.ref 0 2 0 0),(5,I 0)] [0] [(Qye p0)] hφ0 (pc (rnd Qag) (prr (pw pn))) (qb (lc (rnd Qan) (lc (rnd Qab) ln)) qn)) ?_
    refine Qb3 (τ:=Int) (fun n t=>Qdx N p0 p1 k2 n t=some r) (fun y3=>⟨mk 30 [(1,(Qo2 p1)),(2,.ref 0 2 0 0),(5,I y3)],[(Qye p0)]⟩) (fun t h=>by rw[Qdx] at h;cases h) (fun n5 ih y3 h=>?_) N (0) h
    rw[Qdx] at h
    skip
    refine wsq<|wx tbk [(2,rp [(.tmp 16,(Qo2 p1))] (I ((p1.length:Int))))] ⟨alm (c:=Qaf) (l:=p1) (aln rfl underlying49 rfl),tv⟩ ?_
    refine bfe h (fun hc6 h=>?_) fun hc6 h=>?_
    ·refine wft hc6<|Qap<|thn<|wsq<|Qao ?_
     obtain⟨x7,hg8,h⟩:=bno h
     obtain⟨hi9,hj10⟩:=gsm hg8
     obtain⟨x12,hf11,h⟩:=bno h
     refine wxd tbk [(3,rp [(.tmp 22,(Qo2 p1)),(.tmp 23,I y3)] (.dptr (Qaf (x7)) 0)),(5,rp [fu 61,(.tmp 21,(.agg [(Znj p0),(Zni p0)])),(.tmp 25,(.dat 4 ((x7:List Qaa).map Qae)))] (I x12))] ⟨aid rfl underlying49 ti28 rfl rfl hi9 (mgt Qaf hj10) rfl,apv Zr9 (Qq2 N p0 x7 _ hf11) (nlc (NLt.agg _ (nlc (nld Qan _) (nlc (nld Qab _) nl0))) (nlc (nld Qak _) nl0)) nll,tv⟩<|wxz ?_
     refine bfe h (fun hc13 h=>?_) fun hc13 h=>?_
     ·refine wft hc13<|wxz<|Qah<|Qaq<|Qac<|Qac<|Qaq<|Qac ?_
      obtain rfl:=osi h
      exact fend ⟨[I x12],⟨rot,tv⟩,rfl⟩ nll
     ·exact wfn hc13<|Qap<|bln<|thn<|wxz1<|thn<|arm (mto (n:=30) [(1,(Qo2 p1)),(2,.ref 0 2 0 0),(5,(I (w64 (y3+1))))] [0] [(Qye p0)] hφ0 (pc (rnd Qag) (prr (pw pn))) (qb (lc (rnd Qan) (lc (rnd Qab) ln)) qn)) (ih (w64 (y3+1)) h)
    ·exact wfn hc6<|Qbl<|Qax<|Qax<|Qbk rfl<|thn<|⟨(),h,(mto (n:=30) [] [] [] hφ0 pn qn)⟩
  ·skip
   refine bfe h (fun hb14 h=>?_) fun hb14 h=>?_
   ·refine wx tbk [(1,rp [(.tmp 7,(Qo2 p1))] (I ((p1.length:Int)))),(3,rp [(.tmp 9,(B ((decide ((p1.length:Int)<1)))))] (B true))] ⟨alm (c:=Qaf) (l:=p1) (aln rfl underlying49 rfl),asb hb14 (amv rfl),tv⟩<|wtr<|wxz<|Qah<|Qac ?_
    obtain rfl:=osi h
    exact fend ⟨[I 3],⟨rot,tv⟩,rfl⟩ nll
   ·refine wx tbk [(1,rp [(.tmp 7,(Qo2 p1))] (I ((p1.length:Int)))),(3,rp [(.tmp 9,(B ((decide ((p1.length:Int)<1)))))] (B false)),(5,rp [(.tmp 10,B false),(.tmp 11,(Qo2 p1))] (I ((p1.length:Int))))] ⟨alm (c:=Qaf) (l:=p1) (aln rfl underlying49 rfl),asb hb14 (amv rfl),ag_ (alm (c:=Qaf) (l:=p1) (aln rfl underlying49 rfl)),tv⟩ ?_
    refine bfe h (fun hc15 h=>?_) fun hc15 h=>?_
    ·refine wft hc15<|wxz<|Qah<|Qac ?_
     obtain rfl:=osi h
     exact fend ⟨[I 3],⟨rot,tv⟩,rfl⟩ nll
    ·exact wfn hc15<|Qap<|thn<|⟨(),h,(mto (n:=30) [(1,(Qo2 p1)),(2,.ref 0 2 0 0)] [0] [(Qye p0)] hφ0 (pc (rnd Qag) (prr pn)) (qb (lc (rnd Qan) (lc (rnd Qab) ln)) qn))⟩
def Qkg (N:Nat) (p0:GNet) (p1:(List Int)) (p2:(List (List Qaa))):Option Int:=
  (Qlk N p0).bind fun x2=>
  bif (!x2) then
   some 1
  else
   (Qhn N p0 p1).bind fun x5=>
   bif (!x5) then
    some 1
   else
    (Qi2 N p0 p2).bind fun x8=>
    some x8
def Zt2 (p0:GNet):AV:=.dat 7 ((p0.Elements:List Qad).map Qai)
def Zef (p0:GNet):AV:=.agg [(.dat 5 ((p0.Table:List GRow).map Qa7)),(Zt2 p0)]
def Zee (p0:GNet) (x2:Bool):List (Nat×Rec):=[(1,rp [fu 28,((.tmp 7),(Zef p0))] (B (x2)))]
theorem Qul (N:Nat) (p0:GNet) (p1:(List Int)) (p2:(List (List Qaa))) (r:Int) (h:Qkg N p0 p1 p2=some r):Spec prog 43 [(.agg (Qhv p0)),(.dat 1 (p1.map Qav)),(.dat 1 (p2.map Qaf))] [] (I r) []:=by
  refine Qal func43 rfl 0 (nle rfl) (fun X φ0 w0 hφ0 hd0=>?_)
  unfold Qkg at h
  refine wxz<|wsq ?_
  obtain⟨x2,hf1,h⟩:=bno h
  refine hpre (A:=(Zee p0 x2)) ⟨apv Zsl (Qwd N p0 _ hf1) (nlc (NLt.agg _ (nlc (nld Qan _) (nlc (nld Qab _) nl0))) nl0) nll,tv⟩ fun q1_=>?_
  refine bfe h (fun hb3 h=>?_) fun hb3 h=>?_
  ·refine wx tbk (hcat (Zee p0 x2) [(3,rp [(.tmp 9,(B ((!x2))))] (B true))]) (hap q1_ ⟨asb hb3 (amv rfl),tv⟩)<|wtr<|wxz<|Qah<|Qac ?_
   obtain rfl:=osi h
   exact fend ⟨[I 1],⟨rot,tv⟩,rfl⟩ nll
  ·obtain⟨x5,hf4,h⟩:=bno h
   refine wx tbk (hcat (Zee p0 x2) [(3,rp [(.tmp 9,(B ((!x2))))] (B false)),(6,rp [(.tmp 10,B false),fu 33,(.tmp 11,(Zef p0)),(.tmp 12,(.dat 1 ((p1:List Int).map Qav)))] (B x5))]) (hap q1_ ⟨asb hb3 (amv rfl),ag_ (apv Zsj (Qp7 N p0 p1 _ hf4) (nlc (NLt.agg _ (nlc (nld Qan _) (nlc (nld Qab _) nl0))) (nlc (nld Qaj _) nl0)) nll),tv⟩) ?_
   refine bfe h (fun hc6 h=>?_) fun hc6 h=>?_
   ·refine wft hc6<|wxz<|Qah<|Qac ?_
    obtain rfl:=osi h
    exact fend ⟨[I 1],⟨rot,tv⟩,rfl⟩ nll
   ·refine wfn hc6<|Qap<|thn ?_
    obtain⟨x8,hf7,h⟩:=bno h
    refine wx tbk [(2,rp [fu 87,(.tmp 16,(Zef p0)),(.tmp 17,(.dat 1 ((p2:List (List Qaa)).map Qaf)))] (I x8))] ⟨apv Zrz (Qp8 N p0 p2 _ hf7) (nlc (NLt.agg _ (nlc (nld Qan _) (nlc (nld Qab _) nl0))) (nlc (nld Qag _) nl0)) nll,tv⟩<|Qah ?_
    obtain rfl:=osi h
    exact fend ⟨[I x8],⟨rot,tv⟩,rfl⟩ nll
end
end Go.Proofs.YtmbhnllcfmiajaaGreat
