/-
  PipePasses: the plain law, joined. No conditions.
-/
import Derived.Test.YtmbhnllcfmiajaaGreatPPa6
namespace Go.Proofs.YtmbhnllcfmiajaaGreat
open Go.RowKit
theorem Q13 (t:List GRow):∀ (l:List (GElement×Int)) (W:List GStream) (o:List (List GStream)) (ls:List GLost) (ss:List Int) (y:Int) (a:Nat),Qhn t l W o ls ss y=.inl a→a<o.length+l.length
 | [],_,_,_,_,_,_,h=>by rw [Qhn] at h; cases h
 | (x,d)::l,W,o,ls,ss,y,a,h=>by
  rw [Qhn] at h
  split at h
  ·cases h; simp
  ·have:=Q13 t l _ _ _ _ _ a h
   simp at this ⊢
   omega
theorem Qzp {N:Nat} {n:GNet} (hs:Small n) (hN:1001≤N) (hl:n.Elements.length≤15) {s:List Int} {ws:List GStream} (w1:ws.length≤1000) (hr:Qiz n s ws=0) {to:Nat} {k:Int} {x z:GElement} {p0:GPort} {R:List GPort} (hP:Put n to k x z p0 R) (kk:List GElement→Option Bool)
  (hk:∀ a b,Qh1 N n s ws=some a→Qh1 N (putN n to k x z p0) ((s.take to++[0])++s.drop to) ws=some b→(a.2.2=b.2.2∧((a.2.2=11∧∃ c d:Nat,a.2.1=c∧b.2.1=d∧c≤1000∧((c<to∧d=c)∨(to≤c∧d=c+1)))∨(a.2.2=0∧a.1.Out.length=n.Elements.length∧∃ S,b.1.Out=insO to S a.1.Out∧∀ r ∈ a.1.Out,r.length≤1000)))→(⟨n.Table,insL (newE k p0 z.Level) to 0 n.Elements⟩:GNet)=putN n to k x z p0→Small (putN n to k x z p0)→(insL (newE k p0 z.Level) to 0 n.Elements).length=n.Elements.length+1→kk (insL (newE k p0 z.Level) to 0 n.Elements)=some true) :
  Qbl N n (to:Int) p0 z k kk N 0 []=some true:=by
 obtain ⟨hv,hst,hf,_⟩:=Qn0 hr
 have e0:=hs.e
 refine (Zea hs hv hN to p0 z k kk N 0 [] (by simp; omega) (by simp)).trans ?_
 rw [List.drop_zero,List.nil_append]
 have hm:=Q8r hs hl hP
 have hr2:=Q8p hr hP hl
 have hsl:=Qpu hst
 refine hk _ _ (Zf0 hs hN w1 (by omega)) (Zf0 hm hN w1 (by simp; omega)) ?_ (Zft hv hP) hm (by rw [← hP.len,← Zft hv hP])
 rw [List.append_assoc,show ([0]:List Int)++s.drop to=0::s.drop to from rfl]
 unfold doA
 rw [if_pos hr,if_pos hr2]
 have hT:=Q74 hv hf hst hP
 cases h1:Qsv n s ws with
 | inl c=>
  cases h2:Qsv (putN n to k x z p0) (s.take to++0::s.drop to) ws with
  | inl d=>
   rw [h1,h2] at hT
   have hc:=Q13 n.Table _ _ _ _ _ _ _ h1
   rw [List.length_nil,List.length_zip] at hc
   exact ⟨rfl,.inl ⟨rfl,c,d,rfl,rfl,by omega,hT⟩⟩
  | inr q=>rw [h1,h2] at hT; exact hT.elim
 | inr q=>
  cases h2:Qsv (putN n to k x z p0) (s.take to++0::s.drop to) ws with
  | inl d=>rw [h1,h2] at hT; exact hT.elim
  | inr q'=>
   rw [h1,h2] at hT
   obtain ⟨_,S,hS⟩:=hT
   have hV:=Q14 hv hf hst h1
   obtain ⟨_,_,_,t4⟩:=Q36 hs hst hV
   exact ⟨rfl,.inr ⟨rfl,hV.inv.lo,S,hS,fun r hr=>by have:=t4 r hr; omega⟩⟩
theorem Q4i (n:GNet) (s:List Int) (ws:List GStream) (p3:Int) (p4:Bool) (gn:Q9k n) (_:Qz3 s) (_:Qrx ws) (g3:(Lit.int IntKind.u8 p3).wf=true) (_:True):Qg5 (n.Elements.length+s.length+2000) n s ws p3 p4=some true:=by
 generalize hNN:n.Elements.length+s.length+2000=N
 have hN:1001≤N:=by omega
 have hl:(n.Elements.length:Int)≤9223372036854775807:=by
  have:=gn.2.1
  rw [Q85] at this
  omega
 have hp:0≤p3∧p3≤255:=by
  have e1:IntKind.u8.min=0:=rfl
  have e2:IntKind.u8.max=255:=rfl
  simp [Lit.wf,e1,e2] at g3
  omega
 unfold Qg5
 rw [Qkc]
 rcases Zmd (N:=N) (n:=n) (ws:=ws) hl (by omega) with e | ⟨e,hs,hw⟩
 ·rw [e,Option.bind_some,Bool.not_false,cond_true,Qkn]; rfl
 rw [e,Option.bind_some,Bool.not_true,cond_false]
 by_cases h25:(s.length:Int)>25
 ·rw [decide_eq_true h25,cond_true,Qkn]; rfl
 rw [decide_eq_false h25,cond_false]
 by_cases h15:(n.Elements.length:Int)>15
 ·rw [decide_eq_true h15,cond_true,Qkn]; rfl
 rw [decide_eq_false h15,cond_false]
 have w1:ws.length≤1000:=by omega
 have s1:s.length≤1000:=by omega
 rw [Zct hs hN w1 s1,Option.bind_some]
 by_cases hr:Qiz n s ws=0
 ·obtain ⟨hv,hst,hf,_⟩:=Qn0 hr
  have hsl:=Qpu hst
  have hne:=hv.len.1
  rw [hr,bne_self_eq_false,cond_false]
  obtain ⟨to,hto,hlt⟩:∃ to:Nat,(w64 p3).tmod (n.Elements.length:Int)=(to:Int)∧to<n.Elements.length:=by
   rw [Qbd (x:=p3) (by omega) (by omega),Int.tmod_eq_emod_of_nonneg (by omega)]
   have h1:=Int.emod_nonneg p3 (show (n.Elements.length:Int) ≠ 0 by omega)
   have h2:=Int.emod_lt_of_pos p3 (show (0:Int)<(n.Elements.length:Int) by omega)
   exact ⟨(p3 % (n.Elements.length:Int)).toNat,by omega,by omega⟩
  have hg:n.Elements[to]? = some (n.Elements[to]):=List.getElem?_eq_getElem hlt
  generalize hx:n.Elements[to]=x at hg
  simp only [chk]
  rw [show ((n.Elements.length:Int) != 0)=true by rw [bne_iff_ne]; omega,cond_true,hto,Option.bind_some,Qck hg,Option.bind_some]
  cases hF:x.From with
  | nil=>
   show (bif ((0:Int)==0) then _ else _)=_
   rw [beq_self_eq_true,cond_true,Qkn]
   rfl
  | cons p0 R=>
   rw [show ((((p0::R).length:Nat):Int)==0)=false by rw [beq_eq_false_iff_ne]; simp; omega,cond_false]
   obtain ⟨a0,a1,z,hz,_⟩:=hv.port to x p0 hg (by rw [hF]; exact List.mem_cons_self)
   rw [show getI (p0::R) 0=some p0 from rfl,Option.bind_some,show getI n.Elements p0.Element=some z by unfold getI; rw [if_pos a0,hz],Option.bind_some,Qkc]
   have key:∀ kd:Int,kd=3∨kd=6→∀ kk:List GElement→Option Bool,(∀ a b,Qh1 N n s ws=some a→Qh1 N (putN n to kd x z p0) ((s.take to++[0])++s.drop to) ws=some b→(a.2.2=b.2.2∧((a.2.2=11∧∃ c d:Nat,a.2.1=c∧b.2.1=d∧c≤1000∧((c<to∧d=c)∨(to≤c∧d=c+1)))∨(a.2.2=0∧a.1.Out.length=n.Elements.length∧∃ S,b.1.Out=insO to S a.1.Out∧∀ r ∈ a.1.Out,r.length≤1000)))→(⟨n.Table,insL (newE kd p0 z.Level) to 0 n.Elements⟩:GNet)=putN n to kd x z p0→Small (putN n to kd x z p0)→(insL (newE kd p0 z.Level) to 0 n.Elements).length=n.Elements.length+1→kk (insL (newE kd p0 z.Level) to 0 n.Elements)=some true)→Qbl N n (to:Int) p0 z kd kk N 0 []=some true:=fun kd hkd kk hk=>
    Qzp hs hN (by omega) w1 hr (R:=R) ⟨hkd,hg,hF,hz⟩ kk hk
   cases p4
   all_goals
    show Qbp _ _=_
    rw [Qkc]
    first
     | refine key 6 (.inr rfl) _ fun a b ha hb h heq hsm hlen=>?_
     | refine key 3 (.inl rfl) _ fun a b ha hb h heq hsm hlen=>?_
    rw [show (decide ((0:Nat)≤0)&&decide ((0:Int)≤(to:Int))&&decide ((to:Int)≤(s.length:Int)))=true by simp; omega,cond_true,Int.toNat_natCast,Nat.sub_zero,Q2i N (show (s.take to).length≤1000 by simp; omega),Option.bind_some]
    rw [show decide (((s.take to).length+([0]:List Nat).length) * 8≤140737488355328)=true by simp; omega,cond_true,show (decide ((0:Int)≤(to:Int))&&decide ((to:Int)≤(s.length:Int))&&decide ((s.length:Int)≤(s.length:Int)))=true by simp; omega,cond_true,show decide (((s.take to++([0]:List Int)).length+(s.drop to).length) * 8≤140737488355328)=true by simp; omega,cond_true]
    rw [Zfx hs hN,Option.bind_some,Q2i N s1,Option.bind_some,Q39 w1 hN,Option.bind_some,ha,Option.bind_some,heq,Zfx hsm hN,Option.bind_some,Option.bind_some,hb,Option.bind_some,Qkn]
    obtain ⟨h1,h2⟩:=h
    rw [← h1,bne_self_eq_false,cond_false]
    rcases h2 with ⟨h2,c,d,h3,h4,hc,h5⟩ | ⟨h2,h3,S,h4,h5⟩
    ·rw [h2,show ((11:Int) != 0)=true from rfl,cond_true,h3,h4]
     rcases h5 with ⟨h5,rfl⟩ | ⟨h5,rfl⟩
     ·rw [decide_eq_true (show (d:Int)<(to:Int) by omega),cond_true,beq_self_eq_true,cond_true]
      rfl
     ·rw [decide_eq_false (show ¬ (c:Int)<(to:Int) by omega),cond_false,decide_eq_true (show (c:Int)≥(to:Int) by omega),cond_true,Qbd (x:=(c:Int)+1) (by omega) (by omega),show (((c+1:Nat):Int)==(c:Int)+1)=true by simp,cond_true]
      rfl
    ·rw [h2,bne_self_eq_false,cond_false,Qkc,h3,bne_self_eq_false,cond_false,h4,Q2k,hlen,h3,bne_self_eq_false,cond_false,Qkc]
     exact Q4k N to S a.1 b.1 a.2 b.2 _ hN (by omega) (by omega) h4 h5 N 0 (by simp; omega)
 ·rw [show (Qiz n s ws != 0)=true by simpa using hr,cond_true,Qkn]
  rfl
end Go.Proofs.YtmbhnllcfmiajaaGreat
