/-
  PipeNarrows: the plain law. No conditions.
-/
import Derived.Test.YtmbhnllcfmiajaaGreatPLf6
import Derived.Test.YtmbhnllcfmiajaaGreatPWd6
import Derived.Test.YtmbhnllcfmiajaaGreatX11
namespace Go.Proofs.YtmbhnllcfmiajaaGreat
open Go.RowKit
theorem Q60 {x:GElement} (hx:Qgz x=true) {d e:Int} (h0:0≤d) (h1:d≤e) (h2:e≤9000000000000000000):widI x e≤widI x d:=by
 obtain ⟨_,_,_,_,_,_,_,_,n0⟩:=Zee hx h0 (show d≤9000000000000000000 by omega)
 have h:=Int.ediv_le_ediv (show 0<x.Narrow by omega) h1
 unfold widI
 split<;>split<;>omega
theorem Q8k {N:Nat} {A B:List Int} {e f:Int} (hl:B.length≤1000) (hA:A.length=B.length) (h:∀ (i:Nat) a b,A[i]? = some a→B[i]? = some b→b≤a) (k:Unit→Option Bool):∀ (m i:Nat),(B.drop i).length<m→Qcv N (A,e) (B,f) k m i=k ():=by
 intro m
 induction m with
 | zero=>intro i h; exact absurd h (Nat.not_lt_zero _)
 | succ m ih=>
  intro i hm
  rw [Qcv]
  cases hd:B.drop i with
  | nil=>
   have:=Qcx hd
   simp [show ¬ ((i:Int)<B.length) from by omega]
  | cons x q=>
   obtain ⟨hg,hd',hlt⟩:=Qcc hd
   have hga:A[i]? = some (A[i]'(by omega)):=List.getElem?_eq_getElem _
   have hle:=h i _ _ hga hg
   simp only [show decide ((i:Int)<B.length)=true from by simpa using hlt,cond_true,Qco hg,Qco hga,Option.bind_some]
   rw [decide_eq_false (show ¬ x>A[i]'(by omega) by omega),cond_false,Qbe (x:=(i:Int)+1) (by omega) (by omega),show (i:Int)+1=((i+1:Nat):Int) by omega,ih (i+1) (by rw [hd']; rw [hd] at hm; simp at hm; omega)]
theorem Qry (n:GNet) (ws:List GStream):∀ (m:Nat) (st:List Int) (t:Nat),(t:Int)≤(Qmm n ws m st t).1∧(((Qmm n ws m st t).1=(t:Int)+m∧(Qmm n ws m st t).2=-1)∨((Qmm n ws m st t).1<(t:Int)+m∧0≤(Qmm n ws m st t).2))
 | 0,st,t=>by simp [Qmm]
 | m+1,st,t=>by
  rw [Qmm]
  cases Qsz n st ws with
  | inl a=>simp only [Qny]; omega
  | inr r=>
   have:=Qry n ws m r.2.2.1 (t+1)
   simp only [Qny]
   omega
theorem Q6z {n:GNet} (hv:NetV n) {ws:List GStream} (hf:FedV n ws) {st:List Int} {t:Nat} (ht:t≤1000) (hst:StT n st t) {r:Qyh} (h:TickV n st ws r) (i:Nat) (a b:Int) (ha:(Qwr n st)[i]? = some a) (hb:(Qwr n r.2.2.1)[i]? = some b):b≤a:=by
 unfold Qwr at ha hb
 rw [List.getElem?_zipWith] at ha hb
 have hll:=h.inv.ll
 have hl:=hst.len
 have hn:=Quz hf hst h
 cases hx:n.Elements[i]? with
 | none=>rw [hx] at ha; simp at ha
 | some x=>
  have hi:=(List.getElem?_eq_some_iff.1 hx).1
  have hd:st[i]? = some (st[i]'(by omega)):=List.getElem?_eq_getElem _
  have hq:r.2.1[i]? = some (r.2.1[i]'(by omega)):=List.getElem?_eq_getElem _
  have he:r.2.2.1[i]? = some (st[i]'(by omega)+(r.2.1[i]'(by omega)).Scale):=by rw [h.ss,List.getElem?_zipWith,hd,hq]
  rw [hx,hd] at ha
  rw [hx,he] at hb
  simp only [Option.some.injEq] at ha hb
  subst ha hb
  have h1:=hst.bd _ (List.getElem_mem (show i<st.length by omega))
  have h2:=hn.bd _ (List.mem_of_getElem? he)
  have h3:=(h.inv.l0 _ (List.getElem_mem (show i<r.2.1.length by omega))).2.2.2
  exact Q60 (hv.alone x (List.mem_of_getElem? hx)) h1.1 (by omega) (by omega)
theorem Q4g {n:GNet} {st st2:List Int} {ws:List GStream} (h:Qgn n st ws=0) (h2:stB n st2=true):Qgn n st2 ws=0:=by
 unfold Qgn at h ⊢
 rw [h2]
 cases hb:netB n&&stB n st with
 | false=>rw [hb] at h; cases h
 | true=>
  rw [hb] at h
  rw [Bool.and_eq_true] at hb
  rw [hb.1]
  exact h
theorem Zhf {n:GNet} {st:List Int} {ws:List GStream} (h:Qgn n st ws=0):netB n=true∧stB n st=true:=by
 unfold Qgn at h
 cases hb:netB n&&stB n st with
 | false=>rw [hb] at h; cases h
 | true=>rw [Bool.and_eq_true] at hb; exact hb
theorem Q13 {n:GNet} {st:List Int} (h:st.length=n.Elements.length):(Qwr n st).length=n.Elements.length:=by unfold Qwr; rw [List.length_zipWith,h,Nat.min_self]
theorem Qzx {N:Nat} {n:GNet} (hs:Small n) (hN:1001≤N) {ws:List GStream} (hw:ws.length≤1000) {most:Nat} (hm:most≤1000) (k:List Int→Option Bool) (L a e:Int) (hk1:L=most→∀ st,k st=some true) (hk2:∀ st b,Qgn n st ws=0→st.length≤1000→Qsz n st ws=.inl b→a=(b:Int)→k st=some true):∀ (m fu t:Nat) (st:List Int),t+m=most→m<fu→StT n st t→Qgn n st ws=0→Qmm n ws m st t=(L,a) →
  Qci N n ws (L,a,e) k fu st (t:Int)=some true:=by
 have e0:=hs.e
 intro m
 induction m with
 | zero=>
  intro fu t st ht hfu hst hr hL
  obtain ⟨fu,rfl⟩:∃ g,fu=g+1:=⟨fu - 1,by omega⟩
  rw [Qmm,Prod.mk.injEq] at hL
  obtain ⟨rfl,_⟩:=hL
  rw [Qci]
  show (bif decide ((t:Int)<(t:Int)) then _ else _)=_
  rw [decide_eq_false (show ¬ ((t:Int)<(t:Int)) by omega),cond_false]
  exact hk1 (by omega) st
 | succ m ih=>
  intro fu t st ht hfu hst hr hL
  obtain ⟨fu,rfl⟩:∃ g,fu=g+1:=⟨fu - 1,by omega⟩
  obtain ⟨hv,_,hf,_⟩:=Qoh hr
  have hV:=hst.v (show t≤1000 by omega)
  have hsl:=hst.len
  rw [Qmm] at hL
  rw [Qci]
  show (bif decide ((t:Int)<L) then _ else _)=_
  cases hT:Qsz n st ws with
  | inl b=>
   rw [hT] at hL
   simp only [Qny,Prod.mk.injEq] at hL
   obtain ⟨rfl,rfl⟩:=hL
   rw [decide_eq_false (show ¬ ((t:Int)<(t:Int)) by omega),cond_false]
   exact hk2 st b hr (by omega) hT rfl
  | inr r=>
   rw [hT] at hL
   simp only [Qny] at hL
   have hR:=Qux hv hf hV hT
   have hn:=Quz hf hst hR
   have hnl:=hn.len
   have hL1:=(Qry n ws m r.2.2.1 (t+1)).1
   rw [hL] at hL1
   dsimp only at hL1
   obtain ⟨b1,b2⟩:=Zhf hr
   rw [decide_eq_true (show (t:Int)<L by omega),cond_true,Qlp,Zep hs hN,Qtm hw hN,Option.bind_some,Qwp hs hN (show st.length≤1000 by omega),Option.bind_some,Option.bind_some,Option.bind_some,Zer hs hN hw (show st.length≤1000 by omega),Option.bind_some,b1,b2]
   unfold doA
   rw [if_pos hr,hT]
   dsimp only [Qny]
   rw [Qtp (show r.2.2.1.length≤1000 by omega) hN,Option.bind_some]
   cases hb:stB n r.2.2.1 with
   | false=>
    rw [Bool.not_false,cond_true,beq_self_eq_true,cond_true,Qky]
    rfl
   | true=>
    have hw1:=Q13 hsl
    have hw2:=Q13 hnl
    rw [Bool.not_true,cond_false,Option.bind_some,Qwp hs hN (show r.2.2.1.length≤1000 by omega),Option.bind_some,b1,hb]
    show Qbp _ _=_
    rw [Qlp]
    show (bif ((0:Int) != 0) then _ else bif ((0:Int) != 0) then _ else bif ((0:Int) != 0) then _ else bif (((Qwr n st).length:Int) != ((Qwr n r.2.2.1).length:Int)) then _ else _)=_
    rw [bne_self_eq_false,cond_false,cond_false,cond_false,hw1,hw2,bne_self_eq_false,cond_false,Qlp]
    refine (Q8k (by omega) (by omega) (Q6z hv hf (by omega) hst hR) _ N 0 (by simp; omega)).trans ?_
    rw [Qbe (x:=(t:Int)+1) (by omega) (by omega),show (t:Int)+1=((t+1:Nat):Int) by omega]
    exact ih fu (t+1) _ (by omega) (by omega) hn (Q4g hr hb) hL
theorem Qzw (n:GNet) (s:List Int) (ws:List GStream) (p3:Int) (gn:Q8i n) (_:Qz6 s) (_:Qr2 ws) (g3:(Lit.int IntKind.u8 p3).wf=true):Qgt (n.Elements.length+s.length+2000) n s ws p3=some true:=by
 generalize hNN:n.Elements.length+s.length+2000=N
 have hN:1001≤N:=by omega
 have hl:(n.Elements.length:Int)≤9223372036854775807:=by
  have:=gn.2.1
  rw [Q75] at this
  omega
 have hp:0≤p3∧p3≤255:=by
  have e1:IntKind.u8.min=0:=rfl
  have e2:IntKind.u8.max=255:=rfl
  simp [Lit.wf,e1,e2] at g3
  omega
 unfold Qgt
 rw [Qlp]
 rcases Zj6 (N:=N) (n:=n) (ws:=ws) hl (by omega) with e | ⟨e,hs,hw⟩
 ·rw [e,Option.bind_some,Bool.not_false,cond_true,Qky]; rfl
 rw [e,Option.bind_some,Bool.not_true,cond_false]
 by_cases h25:(s.length:Int)>25
 ·rw [decide_eq_true h25,cond_true,Qky]; rfl
 rw [decide_eq_false h25,cond_false]
 have w1:ws.length≤1000:=by omega
 have s1:s.length≤1000:=by omega
 rw [Zbq hs hN w1 s1,Option.bind_some]
 by_cases hr:Qgn n s ws=0
 ·obtain ⟨hv,_,hf,_⟩:=Qoh hr
  have e1:w64 (1+((w64 p3).tmod 60))=1+p3 % 60:=by
   rw [Qbe (x:=p3) (by omega) (by omega),Int.tmod_eq_emod_of_nonneg (by omega),Qbe (by omega) (by omega)]
  obtain ⟨most,hmo,h60⟩:∃ m:Nat,1+p3 % 60=(m:Int)∧1≤m∧m≤60:=⟨(1+p3 % 60).toNat,by omega,by omega,by omega⟩
  rw [hr,bne_self_eq_false,cond_false,e1,hmo,Option.bind_some,Zep hs hN,Zhv N s1,Qtm w1 hN,Option.bind_some,Option.bind_some,Option.bind_some,Zhw hs hN w1 s1,Option.bind_some]
  unfold lifA
  rw [if_pos hr,Qen.2 (show 1≤(most:Int)∧(most:Int)≤1000 by omega),cond_true,Int.toNat_natCast]
  have ho:=Qry n ws most s 0
  cases hL:Qmm n ws most s 0 with
  | mk L a=>
   rw [hL] at ho
   dsimp only at ho
   show Qbp _ _=_
   rw [Qlp]
   show (bif ((0:Int) != 0) then _ else bif decide (L<0) then _ else bif decide (L>most) then _ else bif (!((L==most)==(a==(-1)))) then _ else _)=_
   rw [bne_self_eq_false,cond_false,decide_eq_false (show ¬ L<0 by omega),cond_false,decide_eq_false (show ¬ L>most by omega),cond_false,show (!((L==(most:Int))==(a==(-1))))=false by
    rcases ho.2 with ⟨h1,h2⟩ | ⟨h1,h2⟩
    ·rw [show L=(most:Int) by omega,h2]; simp
    ·rw [show (L==(most:Int))=false by rw [beq_eq_false_iff_ne]; omega,show (a==(-1:Int))=false by rw [beq_eq_false_iff_ne]; omega]; rfl,cond_false,Option.bind_some,Qlp]
   refine Qzx hs hN w1 (most:=most) (by omega) _ L a 0 (fun h st=>?_) (fun st b hr2 hl2 hT hab=>?_) most N 0 s (by omega) (by omega) (Q18 hr) hr hL
   ·show (bif (L==(most:Int)) then _ else _)=_
    rw [h,beq_self_eq_true,cond_true,Qky]
    rfl
   ·show (bif (L==(most:Int)) then _ else _)=_
    rw [Qky]
    cases hq:(L==(most:Int)) with
    | true=>rfl
    | false=>
     rw [cond_false]
     show (Qkm N n st ws).bind _=_
     rw [Zer hs hN w1 hl2,Option.bind_some]
     unfold doA
     rw [if_pos hr2,hT]
     dsimp only [Qny]
     show (bif ((11:Int)==11) then (bif ((b:Int)==a) then _ else _) else _)=_
     rw [beq_self_eq_true,cond_true,hab,beq_self_eq_true,cond_true]
     rfl
 ·rw [show (Qgn n s ws != 0)=true by simpa using hr,cond_true,Qky]
  rfl
end Go.Proofs.YtmbhnllcfmiajaaGreat
