/-
  PipeAccounts: the plain law. No conditions.
-/
import Derived.Test.YtmbhnllcfmiajaaGreatPFt6
import Derived.Test.YtmbhnllcfmiajaaGreatPEr6
import Derived.Test.YtmbhnllcfmiajaaGreatX9
namespace Go.Proofs.YtmbhnllcfmiajaaGreat
open Go.RowKit
def Qi8:Nat→List GLost→List GFall
 | _,[]=>[]
 | i,l::ls=>if l.Scale>0 then ⟨i,l.Scale⟩::Qi8 (i+1) ls else Qi8 (i+1) ls
theorem Qwb:∀ (ls:List GLost) (i:Nat),(Qi8 i ls).length≤ls.length
 | [],_=>by simp [Qi8]
 | l::ls,i=>by
  have:=Qwb ls (i+1)
  rw [Qi8]
  split<;>simp<;>omega
theorem Q8b (N:Nat) (t:GTick) (f e:Int) (k:List GFall→Option (List GFall×Int)) (hl:t.Lost.length≤1000):∀ (m i:Nat) (acc:List GFall),(t.Lost.drop i).length<m→acc.length≤i →
  Qd5 N (t,f,e) k m acc i=k (acc++Qi8 i (t.Lost.drop i)):=by
 intro m
 induction m with
 | zero=>intro i _ h; exact absurd h (Nat.not_lt_zero _)
 | succ m ih=>
  intro i acc h ha
  rw [Qd5]
  cases hd:t.Lost.drop i with
  | nil=>
   have:=Qbx hd
   simp [show ¬ ((i:Int)<t.Lost.length) from by omega,Qi8]
  | cons x q=>
   obtain ⟨hg,hd',hlt⟩:=Qbl hd
   simp only [show decide ((i:Int)<t.Lost.length)=true from by simpa using hlt,cond_true,Qbu hg,Option.bind_some]
   rw [Qa2 (x:=(i:Int)+1) (by omega) (by omega),show (i:Int)+1=((i+1:Nat):Int) by omega,Qi8]
   by_cases hx:x.Scale>0
   ·rw [decide_eq_true hx,cond_true,if_pos hx]
    simp only [chk]
    rw [show decide ((acc.length+[(⟨(i:Int),x.Scale⟩:GFall)].length) * 16≤140737488355328)=true by simp; omega,cond_true,ih (i+1) _ (by rw [hd']; rw [hd] at h; simp at h; omega) (by simp; omega),hd',List.append_assoc]
    rfl
   ·rw [decide_eq_false hx,cond_false,if_neg hx,ih (i+1) _ (by rw [hd']; rw [hd] at h; simp at h; omega) (by omega),hd']
def falA (n:GNet) (st:List Int) (ws:List GStream):List GFall×Int:=
 if Qh5 n st ws=0 then Qom (Qsa n st ws) (fun _=>([],11)) (fun r=>(Qi8 0 r.2.1,0)) else ([],Qh5 n st ws)
theorem Zgw {N:Nat} {n:GNet} (hs:Small n) (hN:1001≤N) {st:List Int} {ws:List GStream} (hl:ws.length≤1000) (hl2:st.length≤1000):Qlc N n st ws=some (falA n st ws):=by
 unfold Qlc
 rw [Zj2 hs hN hl hl2,Option.bind_some]
 unfold doA falA
 by_cases hr:Qh5 n st ws=0
 ·obtain ⟨hv,hst,hf,_⟩:=Qp5 hr
  rw [if_pos hr,if_pos hr]
  cases ht:Qsa n st ws with
  | inl a=>rfl
  | inr r=>
   have hT:=Qsj hv hf hst ht
   have hll:=hT.inv.ll
   have e0:=hs.e
   simp only [Qom,show ((0:Int) != 0)=false from rfl,cond_false,Qbb]
   refine (Q8b N ⟨r.1,r.2.1,r.2.2.1⟩ 0 0 _ (by dsimp only; omega) N 0 [] (by dsimp only; simp; omega) (by simp)).trans ?_
   rfl
 ·rw [if_neg hr,if_neg hr]
  dsimp only
  rw [show (Qh5 n st ws != 0)=true by simpa using hr,cond_true]
theorem Q74 {N:Nat} {n:GNet} {ws:List GStream} {o:List (List GStream)} {ls:List GLost} (hI:InvT n ws n.Elements.length o ls) (k:List GStream→Option Bool) (hl:(Qnu n).length≤1000):∀ (m i:Nat) (acc:List GStream),((Qnu n).drop i).length<m→acc.length=i →
  Qcp N o (Qnu n) k m acc i=k (acc++((Qnu n).drop i).map (Qfh o)):=by
 intro m
 induction m with
 | zero=>intro i _ h; exact absurd h (Nat.not_lt_zero _)
 | succ m ih=>
  intro i acc h ha
  rw [Qcp]
  cases hd:(Qnu n).drop i with
  | nil=>
   have:=Qbx hd
   simp [show ¬ ((i:Int)<(Qnu n).length) from by omega]
  | cons p q=>
   obtain ⟨hg,hd',hlt⟩:=Qbl hd
   obtain ⟨h1,h2,r,h3,h4⟩:=Q3g hI (List.mem_of_getElem? hg)
   simp only [show decide ((i:Int)<(Qnu n).length)=true from by simpa using hlt,cond_true,Qbu hg,Option.bind_some,show getI o p.Element=some r by unfold getI; rw [if_pos h1,h3],show getI r p.Outlet=some (Qfh o p) by unfold getI; rw [if_pos h2,h4],chk]
   rw [show decide ((acc.length+[Qfh o p].length) * 32≤140737488355328)=true by simp; omega,cond_true,Qa2 (x:=(i:Int)+1) (by omega) (by omega),show (i:Int)+1=((i+1:Nat):Int) by omega,ih (i+1) _ (by rw [hd']; rw [hd] at h; simp at h; omega) (by simp [ha]),hd',List.append_assoc]
   rfl
theorem Q76 (N:Nat) (ls:List GLost) (e:Int) (k:List GStream×Int×Int×Int×Int×Int→Option Bool) (o:List GStream) (hl:ls.length≤1000):∀ (m i j:Nat) (a b c d:Int),(ls.drop i).length<m→(Qi8 0 ls).drop j=Qi8 i (ls.drop i)→j≤(Qi8 0 ls).length →
  Qcd N (Qi8 0 ls,e) ls k m o j i (w64 a) (w64 b) (w64 c) (w64 d)=k (o,((Qi8 0 ls).length:Int),w64 (a+(Qhq (ls.drop i)).Heat),w64 (b+(Qhq (ls.drop i)).Silica),w64 (c+(Qhq (ls.drop i)).Gas),w64 (d+(Qhq (ls.drop i)).Scale)):=by
 intro m
 induction m with
 | zero=>intro i _ _ _ _ _ h; exact absurd h (Nat.not_lt_zero _)
 | succ m ih=>
  intro i j a b c d h hj hjl
  have hfl:=Qwb ls 0
  rw [Qcd]
  cases hd:ls.drop i with
  | nil=>
   have:=Qbx hd
   rw [hd,Qi8] at hj
   have h2:=List.drop_eq_nil_iff.1 hj
   simp [show ¬ ((i:Int)<ls.length) from by omega,Qhq,show j=(Qi8 0 ls).length by omega]
  | cons x q=>
   obtain ⟨hg,hd',hlt⟩:=Qbl hd
   rw [hd,Qi8] at hj
   simp only [show decide ((i:Int)<ls.length)=true from by simpa using hlt,cond_true,Qbu hg,Option.bind_some,Qjs]
   rw [Qa2 (x:=(i:Int)+1) (by omega) (by omega),show (i:Int)+1=((i+1:Nat):Int) by omega,Qv7]
   by_cases hx:x.Scale>0
   ·rw [if_pos hx] at hj
    obtain ⟨h1,h2,h3⟩:=Qbl hj
    rw [decide_eq_true hx,cond_true,decide_eq_false (show ¬ (j:Int)≥((Qi8 0 ls).length:Int) by omega),cond_false,Qbu h1,Option.bind_some]
    simp only [bne_self_eq_false,cond_false]
    rw [Qa2 (x:=(j:Int)+1) (by omega) (by omega),show (j:Int)+1=((j+1:Nat):Int) by omega,ih (i+1) (j+1) _ _ _ _ (by rw [hd']; rw [hd] at h; simp at h; omega) (by rw [h2,hd']) (by omega),hd']
    simp only [Int.add_assoc]
   ·rw [if_neg hx] at hj
    rw [decide_eq_false hx,cond_false,ih (i+1) j _ _ _ _ (by rw [hd']; rw [hd] at h; simp at h; omega) (by rw [hj,hd']) hjl,hd']
    simp only [Int.add_assoc]
theorem Q1r (n:GNet) (s:List Int) (ws:List GStream) (gn:Zdp n) (_:Q3n s) (_:Qud ws):Qg6 (n.Elements.length+s.length+2000) n s ws=some true:=by
 generalize hNN:n.Elements.length+s.length+2000=N
 have hN:1001≤N:=by omega
 have hl:(n.Elements.length:Int)≤9223372036854775807:=by
  have:=gn.2.1
  rw [Zda] at this
  omega
 unfold Qg6
 simp only [Zbz,Option.bind_some,Zgs]
 rcases Zqa (N:=N) (n:=n) (ws:=ws) hl (by omega) with e | ⟨e,hs,hw⟩
 ·rw [e,Option.bind_some,Bool.not_false,cond_true]
 rw [e,Option.bind_some,Bool.not_true,cond_false]
 by_cases h25:(s.length:Int)>25
 ·rw [decide_eq_true h25,cond_true]
 rw [decide_eq_false h25,cond_false]
 have w1:ws.length≤1000:=by omega
 have s1:s.length≤1000:=by omega
 simp only [Zp5 hs hN,Zm7 N s1,Q7q w1 hN,Q8x hs hN w1 s1,Zgw hs hN w1 s1,Zgv hs hN w1 s1,Option.bind_some,Qld]
 unfold accA falA
 by_cases hr:Qh5 n s ws=0
 ·obtain ⟨hv,hst,hf,hb⟩:=Qp5 hr
  rw [if_pos hr,if_pos hr,hr,Zge hs hN hv hf hst]
  cases ht:Qsa n s ws with
  | inl a=>
   simp only [Qom,beq_self_eq_true,cond_true,Option.bind_some]
   rw [show decide ((a:Int)≥0)=true by simp]
   rfl
  | inr r=>
   have hT:=Qsj hv hf hst ht
   have hI:=hT.inv
   have hE:=Q02 hs
   have hll:=hI.ll
   have e0:=hs.e
   rw [beq_self_eq_true,cond_true,Option.bind_some]
   dsimp only [Qom]
   show (bif decide ((-1:Int)≥0) then _ else _)=_
   rw [show decide ((-1:Int)≥0)=false from rfl,cond_false,show ((0:Int) != 0)=false from rfl,cond_false,Q7w hs hN,Option.bind_some]
   refine (Q74 hI _ (by omega) N 0 [] (by simp; omega) rfl).trans ?_
   rw [List.drop_zero,List.nil_append]
   have hlr:=fun k=>Q76 N r.2.1 0 k (Qol n r.1) (by omega) N 0 0 0 0 0 0 (by simp; omega) (by simp) (Nat.zero_le _)
   simp only [Qpu,List.drop_zero,Int.zero_add,Int.natCast_zero] at hlr
   obtain ⟨b1,b2,b3,b4⟩:=Q50 hI hf
   have hov:=Zcw hI
   have hol:(Qol n r.1).length≤450:=by unfold Qol; rw [List.length_map]; exact hE
   rw [Qa2 (x:=(Qhq r.2.1).Heat) (by omega) (by omega),Qa2 (x:=(Qhq r.2.1).Silica) (by omega) (by omega),Qa2 (x:=(Qhq r.2.1).Gas) (by omega) (by omega),Qa2 (x:=(Qhq r.2.1).Scale) (by omega) (by omega)] at hlr
   refine (hlr _).trans ?_
   have q1:=Qth w1 hN
   have q2:=Qth (show (Qol n r.1).length≤1000 by omega) hN
   rw [Qkz hf.v w1] at q1
   rw [Qkz hov (by omega)] at q2
   clear hlr hI hT ht hov
   generalize Qol n r.1=O at *
   generalize Qi8 0 r.2.1=F
   generalize Qhq r.2.1=L
   generalize totS ws=A at *
   generalize totS O=B at *
   show (bif ((F.length:Int)==(F.length:Int)) then _ else _)=_
   rw [beq_self_eq_true,cond_true,q1]
   show (bif ([A.Mass,A.Heat,A.Silica,A.Gas]==[A.Mass,A.Heat,A.Silica,A.Gas]) then _ else _)=_
   rw [beq_self_eq_true,cond_true,q2]
   show (bif ([B.Mass,B.Heat,B.Silica,B.Gas]==[B.Mass,B.Heat,B.Silica,B.Gas]) then _ else _)=_
   rw [beq_self_eq_true,cond_true]
   show (bif (L.Heat==L.Heat) then _ else _)=_
   rw [beq_self_eq_true,cond_true]
   rw [beq_self_eq_true,cond_true] --1
   rw [beq_self_eq_true,cond_true] --2
   rw [beq_self_eq_true,cond_true] --3
 ·rw [if_neg hr,if_neg hr]
  have hr2:(Qh5 n s ws==0)=false:=by simpa using hr
  have hr3:(Qh5 n s ws != 0)=true:=by simpa using hr
  simp only [hr2,hr3,cond_false,cond_true,beq_self_eq_true,List.length_nil]
  rfl
end Go.Proofs.YtmbhnllcfmiajaaGreat
