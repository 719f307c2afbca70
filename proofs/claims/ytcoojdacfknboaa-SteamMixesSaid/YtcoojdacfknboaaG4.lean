/-
  The texts PSa6, PV6, PSb6, PSc6, PSt6, PRs6, PMx of the proof, one behind the other. No conditions.
-/
import Derived.Test.YtcoojdacfknboaaG3
namespace Go.Proofs.Ytcoojdacfknboaa
open _root_.Go.Proofs.Try
open Go.RowKit
section
def Qfq (key:Int→Int) (ls:List Int) (i k:Int):Prop:=key (ls.getD k.toNat 0)<key (ls.getD i.toNat 0)∨(key (ls.getD k.toNat 0)=key (ls.getD i.toNat 0)∧i<k)
theorem Qh4 {key:Int→Int}{ls:List Int}{i k:Int}(h:Qfq key ls i k) (h':Qfq key ls k i):False:=by
 unfold Qfq at h h'
 omega
theorem Qoh {key:Int→Int}{ls:List Int}{i k m:Int}(h:Qfq key ls i k) (h':Qfq key ls k m):Qfq key ls i m:=by
 unfold Qfq at *
 omega
def ixs (n:Nat):List Int:=(List.range n).map fun j:Nat=>(j:Int)
theorem Qee (n:Nat):(ixs n).length=n:=by simp[ixs]
theorem Qlm {n i:Nat}(h:i<n):(ixs n)[i]? = some (i:Int):=by simp[ixs,h]
theorem Qh2 {n:Nat}{x:Int}:x∈ixs n↔0≤x∧x<n:=by
 unfold ixs
 rw[List.mem_map]
 constructor
 ·rintro ⟨j,hj,rfl⟩
  have:=List.mem_range.1 hj
  omega
 ·rintro ⟨h0,h1⟩
  exact⟨x.toNat,List.mem_range.2 (by omega),by omega⟩
theorem Qsn (n:Nat):(ixs n).Nodup:=List.pairwise_map.2 ((List.nodup_range (n:=n)).imp fun h e=>h (by omega))
section
variable {N L : Nat} {ws : List Int} {M W : Int}
def rkey (M W w:Int):Int:=M*w % W
structure WOk (ws:List Int) (M W:Int):Prop where
 w:∀x∈ws,0≤x∧x≤1000
 m0:0≤M
 m1:M≤1000000
 p0:0<W
 p1:W≤20000
theorem Qrz (h:WOk ws M W) (x:Int):0≤rkey M W x∧rkey M W x<20000:=by
 have:=h.p0
 have:=h.p1
 have a:=Int.emod_nonneg (M*x) (show W≠0 by omega)
 have b:=Int.emod_lt_of_pos (M*x) h.p0
 unfold rkey
 omega
theorem Qoy (h:WOk ws M W) {x:Int}(hx:x∈ws):Qdd N x M W=some (rkey M W x):=by
 obtain⟨x0,x1⟩:=h.w x hx
 have h0:=h.m0
 have h1:=h.m1
 have p:=h.p0
 have:=bdp h0 h1 x0 x1 (by omega)
 unfold Qdd chk rkey
 rw[show(W != 0)=true by rw[bne_iff_ne];omega,cond_true,Qb6 (by omega) (by omega),Int.tmod_eq_emod_of_nonneg this.1]
theorem Qy2 (h:WOk ws M W) {a b:Int}(ha:0≤a∧a<ws.length) (hb:0≤b∧b<ws.length):Qbw N a b ws M W=some (rkey M W (ws.getD b.toNat 0)-rkey M W (ws.getD a.toNat 0)):=by
 have ga:ws[a.toNat]? = some (ws.getD a.toNat 0):=by rw[List.getD_eq_getElem?_getD,List.getElem?_eq_getElem (by omega)];rfl
 have gb:ws[b.toNat]? = some (ws.getD b.toNat 0):=by rw[List.getD_eq_getElem?_getD,List.getElem?_eq_getElem (by omega)];rfl
 have ka:=Qrz h (ws.getD a.toNat 0)
 have kb:=Qrz h (ws.getD b.toNat 0)
 unfold Qbw
 rw[show getI ws b=some (ws.getD b.toNat 0) from by rw[←gb];unfold getI;rw[if_pos hb.1],show getI ws a=some (ws.getD a.toNat 0) from by rw[←ga];unfold getI;rw[if_pos ha.1]]
 simp only[Option.bind_some,Qoy h (List.mem_of_getElem? ga),Qoy h (List.mem_of_getElem? gb)]
 rw[Qb6 (by omega) (by omega)]
theorem Qwr (h:WOk ws M W) (hL:L≤20) (hLw:L=ws.length) (k:List Int→Option (List Int)) (x:Int) (R:List Int) (hx:0≤x∧x<ws.length):∀(n:Nat) (P S:List Int),P.length<n→(P++x::S++R).length=L →
  (P++S).Pairwise (Qfq (rkey M W) ws)→(∀s∈S,Qfq (rkey M W) ws x s)→(∀y∈P++S,0≤y∧y<x) →
  ∃Q,Qat N L 0 ws M W k n P.length (P++x::S++R)=k (Q++R)∧Q.Perm (P++x::S)∧Q.Pairwise (Qfq (rkey M W) ws):=by
 intro n
 induction n with
 |zero=>intro P S hn;exact absurd hn (Nat.not_lt_zero _)
 |succ n ih=>
  intro P S hn hl hp hs hb
  rw[Qat]
  simp only[Qcd]
  rcases List.eq_nil_or_concat P with rfl |⟨P',y,rfl⟩
  ·refine⟨x::S,by simp,.refl _,?_⟩
   rw[List.pairwise_cons]
   exact⟨hs,by simpa using hp⟩
  ·simp only[List.concat_eq_append] at *
   have hlen:(P'++[y]).length=P'.length+1:=by simp
   have hl2:P'.length+1<L:=by rw[←hl];simp
   have e1:w64 (((P'++[y]).length:Nat)-1:Int)=(P'.length:Int):=by rw[hlen,Qb6 (by omega) (by omega)];omega
   have e2:(((P'++[y]).length:Nat):Int).toNat=P'.length+1:=by rw[hlen];omega
   have e3:(P'.length:Int).toNat=P'.length:=by omega
   have gx:(P'++[y]++x::S++R)[P'.length+1]? = some x:=by
    rw[List.append_assoc,List.append_assoc,List.getElem?_append_right (by omega)]
    simp
   have gy:(P'++[y]++x::S++R)[P'.length]? = some y:=by
    rw[List.append_assoc,List.append_assoc,List.getElem?_append_right (by omega)]
    simp
   have hy:=hb y (by simp)
   have c1:(decide ((0:Int)≤(((P'++[y]).length:Nat):Int))&&decide (P'.length+1<L))=true:=by simp;omega
   have c2:(decide ((0:Int)≤(P'.length:Int))&&decide (P'.length<L))=true:=by simp;omega
   have hs1:((P'++[y]++x::S++R).set (P'.length+1) y)[P'.length]? = some y:=by rw[List.getElem?_set_ne (by omega)];exact gy
   have hsw:((P'++[y]++x::S++R).set (P'.length+1) y).set P'.length x=P'++x::(y::S)++R:=by
    have a1:(P'++[y]++x::S++R).set (P'.length+1) y=P'++[y]++y::S++R:=by
     rw[List.append_assoc,List.append_assoc,List.set_append_right _ _ (by omega),show P'.length+1-P'.length=1 by omega]
     simp
    rw[a1,List.append_assoc,List.append_assoc,List.set_append_right _ _ (by omega),Nat.sub_self]
    simp
   have hcmp:=Qy2 (N:=N) h hx (show 0≤y∧y<ws.length by omega)
   simp only[show decide ((((P'++[y]).length:Nat):Int)>0)=true from decide_eq_true (by rw[hlen];omega),cond_true,e1,e2,e3,chk,c1,c2,gx,gy,Option.bind_some,hcmp,hs1,hsw]
   by_cases hlt:rkey M W (ws.getD y.toNat 0)-rkey M W (ws.getD x.toNat 0)<0
   ·rw[decide_eq_true hlt,cond_true]
    obtain⟨Q,q1,q2,q3⟩:=ih P' (y::S) (by rw[hlen] at hn;omega) (by rw[←hl];simp) (by simpa using hp) (fun s hs'=>by
     rcases List.mem_cons.1 hs' with rfl |hs'
     ·exact .inl (by omega)
     ·exact hs s hs') (fun z hz=>hb z (by simpa using hz))
    refine⟨Q,q1,q2.trans ?_,q3⟩
    rw[List.append_assoc]
    exact List.Perm.append_left P' (List.Perm.swap y x S)
   ·rw[decide_eq_false hlt,cond_false]
    refine⟨P'++[y]++x::S,rfl,.refl _,?_⟩
    have hyx:Qfq (rkey M W) ws y x:=by unfold Qfq;omega
    rw[List.pairwise_append] at hp ⊢
    obtain⟨p1,p2,p3⟩:=hp
    refine⟨p1,List.pairwise_cons.2 ⟨hs,p2⟩,fun a ha b hb'=>?_⟩
    have hax:Qfq (rkey M W) ws a x:=by
     rcases List.mem_append.1 ha with ha |ha
     ·rw[List.pairwise_append] at p1
      exact Qoh (p1.2.2 a ha y (by simp)) hyx
     ·simp at ha;subst ha;exact hyx
    rcases List.mem_cons.1 hb' with rfl |hb'
    ·exact hax
    ·exact p3 a ha b hb'
theorem Qup (h:WOk ws M W) (hL:L≤20) (hLw:L=ws.length) (hN:1000≤N):∀(n i:Nat) (Q:List Int),L-i<n→i≤L→Q.Perm ((ixs L).take i)→Q.Pairwise (Qfq (rkey M W) ws) →
  ∃Q',Qam N L 0 L ws M W n i (Q++(ixs L).drop i)=some Q'∧Q'.Perm (ixs L)∧Q'.Pairwise (Qfq (rkey M W) ws):=by
 intro n
 induction n with
 |zero=>intro i _ h;cases h
 |succ n ih=>
  intro i Q hn hi hp hq
  rw[Qam]
  simp only[Qcd]
  by_cases hlt:i<L
  ·have hql:Q.length=i:=by rw[hp.length_eq,List.length_take,Qee];omega
   have hd:(ixs L).drop i=(i:Int)::(ixs L).drop (i+1):=by
    have:=Qlm hlt
    have hi2:i<(ixs L).length:=by rw[Qee];exact hlt
    rw[List.drop_eq_getElem_cons hi2]
    rw[List.getElem?_eq_getElem hi2] at this
    rw[Option.some.inj this]
   rw[show decide ((i:Int)<(L:Int))=true from by simpa using hlt,cond_true]
   have hmem:∀y∈Q,0≤y∧y<(i:Int):=fun y hy=>by
    have h1:=hp.mem_iff.1 hy
    obtain⟨j,hj,e⟩:=List.mem_take_iff_getElem.1 h1
    have hj2:j<L:=by rw[Qee] at hj;omega
    have:=Qlm hj2
    rw[List.getElem?_eq_getElem (by rw[Qee];exact hj2),e] at this
    cases this
    omega
   obtain⟨Q',q1,q2,q3⟩:=Qwr (N:=N) h hL hLw (fun y8=>Qam N L 0 L ws M W n (w64 ((i:Int)+1)) y8) (i:Int) ((ixs L).drop (i+1)) (by omega) N Q [] (by omega) (by simp[Qee,hql];omega) (by simpa using hq) (by simp) (by simpa using hmem)
   rw[hql] at q1
   rw[hd]
   have e:Q++(i:Int)::(ixs L).drop (i+1)=Q++[(i:Int)]++(ixs L).drop (i+1):=by simp
   rw[e]
   have t:(ixs L).take (i+1)=(ixs L).take i++[(i:Int)]:=by
    rw[List.take_add_one,Qlm hlt];rfl
   obtain⟨Q2,r1,r2,r3⟩:=ih (i+1) Q' (by omega) (by omega) (q2.trans (by rw[t];exact hp.append_right _)) q3
   refine⟨Q2,q1.trans ?_,r2,r3⟩
   rw[w64S (i:=i) (by omega)]
   exact r1
  ·rw[show decide ((i:Int)<(L:Int))=false from by simpa using hlt,cond_false]
   have hiL:i=L:=by omega
   subst hiL
   rw[List.take_of_length_le (by rw[Qee];exact Nat.le_refl _)] at hp
   exact⟨Q,by rw[List.drop_of_length_le (by rw[Qee];exact Nat.le_refl _),List.append_nil],hp,hq⟩
theorem Qui (h:WOk ws M W) (hL:ws.length≤20) (h1:1≤ws.length) (hN:1000≤N):∃Q,Qbe N ws.length (ixs ws.length) ws M W=some Q∧Q.Perm (ixs ws.length)∧Q.Pairwise (Qfq (rkey M W) ws):=by
 have ht:(ixs ws.length).take 1=[0]:=by
  rw[List.take_add_one,Qlm (by omega)];rfl
 have hd:(ixs ws.length)=[0]++(ixs ws.length).drop 1:=by rw[←ht,List.take_append_drop]
 obtain⟨Q,q1,q2,q3⟩:=Qup (N:=N) (L:=ws.length) h hL rfl hN N 1 [0] (by omega) h1 (by rw[ht]) (by simp)
 rw[←hd] at q1
 refine⟨Q,?_,q2,q3⟩
 obtain⟨m,rfl⟩:∃m,N=m+2:=⟨N-2,by omega⟩
 have hins:Qav (m+2) ws.length 0 (ws.length:Int) (ixs ws.length) ws M W=some Q:=by
  unfold Qav
  rw[show w64 ((0:Int)+1)=((1:Nat):Int) from Qb6 (by decide) (by decide)]
  exact q1
 unfold Qbe Qct
 simp only[Qcd]
 rw[Qa1]
 by_cases h20:ws.length=20
 ·rw[show decide ((20:Int)≤(ws.length:Int))=true from by simp;omega,cond_true]
  have e20:(20:Int)=(ws.length:Int):=by omega
  rw[show Qav (m+2) ws.length 0 20 (ixs ws.length) ws M W=some Q from by rw[e20];exact hins,Option.bind_some,Qa1,show w64 ((20:Int)+20)=40 from Qb6 (by decide) (by decide),show decide ((40:Int)≤(ws.length:Int))=false from by simp;omega,cond_false]
  dsimp only
  unfold Qav
  rw[show w64 ((20:Int)+1)=21 from Qb6 (by decide) (by decide),Qam,show decide ((21:Int)<(ws.length:Int))=false from by simp;omega,cond_false,Option.bind_some,Qaw,show decide ((20:Int)<(ws.length:Int))=false from by simp;omega,cond_false]
  rfl
 ·rw[show decide ((20:Int)≤(ws.length:Int))=false from by simp;omega,cond_false]
  dsimp only
  rw[hins,Option.bind_some,Qaw,show decide ((20:Int)<(ws.length:Int))=false from by simp;omega,cond_false]
  rfl
theorem Qur (ls:List Int) (k:List Int→Option (List Int)) (h8:ls.length≤20):∀(n i:Nat) (l:List Int),ls.length-i<n→i≤ls.length→l=ixs i →
  Qbo N ls k n i l=k (ixs ls.length):=by
 intro n
 induction n with
 |zero=>intro i _ h;cases h
 |succ n ih=>
  intro i l hn hi hl
  rw[Qbo]
  by_cases h:i<ls.length
  ·have e1:w64 ((i:Int)+1)=((i+1:Nat):Int):=Qb6 (by omega) (by omega)
   rw[show decide ((i:Int)<(ls.length:Int))=true from by simpa using h,cond_true,e1]
   simp only[chk]
   rw[show decide ((l.length+[(i:Int)].length)*8≤140737488355328)=true from by rw[hl,Qee];simp;omega,cond_true]
   exact ih (i+1) _ (by omega) (by omega) (by rw[hl];simp[ixs,List.range_succ])
  ·rw[show decide ((i:Int)<(ls.length:Int))=false from by simpa using h,cond_false,hl,show i=ls.length by omega]
theorem Qmf (h:WOk ws M W) (hL:ws.length≤20) (h1:1≤ws.length) (hN:1000≤N):∃Q,Qde N ws M W=some Q∧Q.Perm (ixs ws.length)∧Q.Pairwise (Qfq (rkey M W) ws):=by
 obtain⟨Q,q1,q2,q3⟩:=Qui (N:=N) h hL h1 hN
 refine⟨Q,?_,q2,q3⟩
 have hlen:=q2.length_eq
 rw[Qee] at hlen
 unfold Qde
 simp only[Qcd]
 have:=Qur (N:=N) ws (fun y3=>chk (!y3.isEmpty)<|(Qbe N y3.length y3 ws M W).bind fun x7=>chk (decide (y3.length≤x7.length))<|some (x7.take y3.length)) hL N 0 [] (by omega) (by omega) rfl
 refine this.trans ?_
 have he:(!(ixs ws.length).isEmpty)=true:=by
  cases hh:ixs ws.length with
  |nil=>have:=Qee ws.length;rw[hh] at this;simp at this;omega
  |cons=>rfl
 simp only[chk,he,cond_true,Qee,q1,Option.bind_some]
 rw[show decide (ws.length≤Q.length)=true by simp;omega,cond_true,List.take_of_length_le (by omega)]
end
end
section
theorem Qmt {α:Type}{F:Nat→Int→Option Int}{p:List α}{q:α→Option Bool}{b:α→Bool}{k:Unit→Option Int}
  (h:∀n y,F (n+1) y=bif decide (y<(p.length:Int)) then(getI p y).bind fun x=>(q x).bind fun c=>bif c then some y else F n (w64 (y+1)) else k ())
  (hq:∀x,q x=some (b x)) (hk:k ()=some (-1)) (hl:p.length≤1000000):∀(n i:Nat),(p.drop i).length<n→(F n i).bind (fun x=>some (decide (x≥0)))=some ((p.drop i).any b):=by
 intro n
 induction n with
 |zero=>intro i h;cases h
 |succ n ih=>
  intro i hn
  rw[h]
  cases hd:p.drop i with
  |nil=>
   have:=Qec hd
   rw[show decide ((i:Int)<(p.length:Int))=false by simp;omega,cond_false,hk]
   rfl
  |cons a l=>
   obtain⟨h1,h2,h3⟩:=Qdu hd
   rw[show decide ((i:Int)<(p.length:Int))=true by simp;omega,cond_true,Qe4 h1,Option.bind_some,hq,Option.bind_some]
   cases hb:b a with
   |true=>simp[hb]
   |false=>
    rw[cond_false,show w64 ((i:Int)+1)=((i+1:Nat):Int) by rw[Qb6]<;>omega,ih (i+1) (by rw[h2];rw[hd] at hn;simp at hn;omega),h2]
    simp[hb]
theorem Qfp {α:Type}{F:Nat→Int→Option Int}{p:List α}{q:α→Option Bool}{b:α→Bool}{k:Unit→Option Int}{N:Nat}
  (h:∀n y,F (n+1) y=bif decide (y<(p.length:Int)) then(getI p y).bind fun x=>(q x).bind fun c=>bif c then some y else F n (w64 (y+1)) else k ())
  (hq:∀x,q x=some (b x)) (hk:k ()=some (-1)) (hl:p.length≤1000000) (hN:p.length<N):(F N 0).bind (fun x=>some (decide (x≥0)))=some (p.any b):=by
 have:=Qmt h hq hk hl N 0 (by simpa using hN)
 simpa using this
theorem Qog {α:Type}(l:List α) (b:α→Bool):(!l.any fun x=>!b x)=l.all b:=by
 induction l with
 |nil=>rfl
 |cons a l ih=>simp only[List.any_cons,List.all_cons,Bool.not_or,Bool.not_not,ih]
def wtsB (w:List Int):Bool:=btw w.length 1 20&&(w.all (fun x=>btw x 0 1000)&&w.any fun x=>decide (x>0))
theorem Que {N:Nat}(w:List Int) (k:Int→Option Bool) (hl:w.length≤1000):∀(n i:Nat) (s:Int),(w.drop i).length<n→0≤s→s≤1000*i →
  Qbp N w k n s i=bif (w.drop i).all (fun x=>btw x 0 1000) then k (s+(w.drop i).sum) else some false:=by
 intro n
 induction n with
 |zero=>intro i _ h;cases h
 |succ n ih=>
  intro i s h h0 h1
  rw[Qbp]
  cases hd:w.drop i with
  |nil=>
   have:=Qec hd
   simp[show ¬((i:Int)<w.length) from by omega]
  |cons a l=>
   obtain⟨hg,hd',hlt⟩:=Qdu hd
   simp only[dlI hlt,cond_true,Qe4 hg,Option.bind_some,Qyu,List.all_cons]
   cases hb:btw a 0 1000 with
   |false=>rfl
   |true=>
    have hb':=Qh3.1 hb
    simp only[Bool.not_true,cond_false,Bool.true_and,List.sum_cons]
    rw[Qb6 (x:=(i:Int)+1) (by omega) (by omega),Qb6 (x:=s+a) (by omega) (by omega),show(i:Int)+1=((i+1:Nat):Int) by omega,ih (i+1) (s+a) (dlt hd hd' h) (by omega) (by omega),hd',Int.add_assoc]
theorem Qng {w:List Int}(h:∀x∈w,0≤x):0≤w.sum∧(w.sum>0↔∃x∈w,x>0):=by
 induction w with
 |nil=>simp
 |cons a l ih=>
  obtain⟨h1,h2⟩:=ih fun x hx=>h x (List.mem_cons_of_mem _ hx)
  have ha:=h a List.mem_cons_self
  simp only[List.sum_cons,List.mem_cons,exists_eq_or_imp]
  refine⟨by omega,⟨fun hs=>?_,fun hs=>?_⟩⟩
  ·by_cases h3:a>0
   ·exact .inl h3
   ·exact .inr (h2.1 (by omega))
  ·rcases hs with hs |hs
   ·omega
   ·have:=h2.2 hs;omega
theorem Qr0 {N:Nat}{w:List Int}(hl:w.length≤1000) (hN:1001≤N):Qdj N w=some (wtsB w):=by
 unfold Qdj wtsB
 simp only[Qcd]
 have:=Que (N:=N) w (fun y1=>bif (decide ((w.length:Int)≤20)) then some (decide (y1>0)) else some false) hl N 0 0 (by simp;omega) (by omega) (by omega)
 rw[List.drop_zero,Int.zero_add] at this
 refine this.trans ?_
 cases ha:w.all fun x=>btw x 0 1000 with
 |false=>simp
 |true=>
  have ha':∀x∈w,0≤x:=fun x hx=>(Qh3.1 (List.all_eq_true.1 ha x hx)).1
  have hs:=(Qng ha').2
  have e:(w.any fun x=>decide (x>0))=decide (w.sum>0):=by
   by_cases h:w.sum>0
   ·rw[decide_eq_true h,List.any_eq_true]
    obtain⟨x,h1,h2⟩:=hs.1 h
    exact⟨x,h1,by simpa using h2⟩
   ·rw[decide_eq_false h]
    rw[List.any_eq_false]
    exact fun x hx h2=>h (hs.2 ⟨x,hx,by simpa using h2⟩)
  rw[e,cond_true,Bool.true_and]
  by_cases h1:w.length=0
  ·have:w=[]:=List.length_eq_zero_iff.1 h1
   subst this
   rfl
  ·by_cases h2:(w.length:Int)≤20
   ·rw[show btw (w.length:Int) 1 20=true from Qh3.2 ⟨by omega,h2⟩,decide_eq_true h2];rfl
   ·rw[show btw (w.length:Int) 1 20=false by unfold btw;rw[decide_eq_false h2,Bool.and_false],decide_eq_false h2];rfl
end
section
def Qgc (key:Int→Int) (ls:List Int) (mk:List Bool):Nat→Int
 |0=>-1
 |d+1=>if mk.getD d false=false∧(Qgc key ls mk d<0∨key (ls.getD (Qgc key ls mk d).toNat 0)<key (ls.getD d 0)) then d else Qgc key ls mk d
theorem Qi4 (key:Int→Int) (ls:List Int) (mk:List Bool):∀d,((∀i,i<d→mk.getD i false=true)∧Qgc key ls mk d=-1) ∨
  ∃b:Nat,b<d∧Qgc key ls mk d=b∧mk.getD b false=false∧∀i:Nat,i<d→mk.getD i false=false→i=b∨Qfq key ls b i
 |0=>.inl ⟨fun i h=>absurd h (by omega),rfl⟩
 |d+1=>by
  unfold Qgc
  rcases Qi4 key ls mk d with ⟨h1,h2⟩ |⟨b,hb,h2,h3,h4⟩
  ·rw[h2]
   cases hm:mk.getD d false with
   |true=>exact .inl ⟨fun i hi=>(Nat.lt_succ_iff_lt_or_eq.1 hi).elim (h1 i) (fun e=>e▸hm),by rw[if_neg (by simp)]⟩
   |false=>
    rw[if_pos ⟨rfl,.inl (by omega)⟩]
    refine .inr ⟨d,by omega,rfl,hm,fun i hi hn=>?_⟩
    rcases Nat.lt_succ_iff_lt_or_eq.1 hi with h |h
    ·rw[h1 i h] at hn;exact absurd hn (by simp)
    ·exact .inl h
  ·rw[h2]
   by_cases hc:mk.getD d false=false∧((b:Int)<0∨key (ls.getD (b:Int).toNat 0)<key (ls.getD d 0))
   ·rw[if_pos hc]
    have hk:key (ls.getD b 0)<key (ls.getD d 0):=hc.2.elim (fun h=>by omega) (fun h=>by simpa using h)
    refine .inr ⟨d,by omega,rfl,hc.1,fun i hi hn=>?_⟩
    rcases Nat.lt_succ_iff_lt_or_eq.1 hi with h |h
    ·rcases h4 i h hn with rfl |h5
     ·exact .inr (.inl (by simpa using hk))
     ·refine .inr (.inl ?_)
      unfold Qfq at h5
      simp only[Int.toNat_natCast] at h5 ⊢
      omega
    ·exact .inl h
   ·rw[if_neg hc]
    refine .inr ⟨b,by omega,rfl,h3,fun i hi hn=>?_⟩
    rcases Nat.lt_succ_iff_lt_or_eq.1 hi with h |rfl
    ·exact h4 i h hn
    ·refine .inr ?_
     have:¬key (ls.getD (b:Int).toNat 0)<key (ls.getD i 0):=fun h=>hc ⟨hn,.inr h⟩
     unfold Qfq
     simp only[Int.toNat_natCast] at this ⊢
     omega
theorem Qku {key:Int→Int}{ls L:List Int}{mk:List Bool}{n k:Nat}(hL:L.Pairwise (Qfq key ls)) (hm:∀i:Nat,i<n→(i:Int)∈L) (hr:∀x∈L,0≤x∧x<n)
  (hmk:∀i:Nat,i<n→(mk.getD i false=true↔(i:Int)∈L.take k)) (hk:k<L.length):Qgc key ls mk n=L[k]:=by
 have hd:L.Pairwise (· ≠ ·):=hL.imp (fun {a b} h e=>by subst e;exact Qh4 h h)
 obtain⟨x0,x1⟩:=hr L[k] (List.getElem_mem hk)
 have hx:((L[k].toNat:Nat):Int)=L[k]:=Int.toNat_of_nonneg x0
 have hun:mk.getD L[k].toNat false=false:=by
  cases h:mk.getD L[k].toNat false with
  |false=>rfl
  |true=>
   have:=(hmk _ (by omega)).1 h
   rw[hx,List.mem_take_iff_getElem] at this
   obtain⟨i,hi,e⟩:=this
   exact absurd e ((List.pairwise_iff_getElem.1 hd) i k (by omega) hk (by omega))
 rcases Qi4 key ls mk n with ⟨h1,_⟩ |⟨b,hb,h2,h3,h4⟩
 ·rw[h1 _ (by omega)] at hun
  exact absurd hun (by simp)
 ·rw[h2]
  rcases h4 L[k].toNat (by omega) hun with h |h
  ·omega
  ·exfalso
   obtain⟨j,hj,e⟩:=List.getElem_of_mem (hm b hb)
   have hjk:¬j<k:=fun hlt=>by
    have:=(hmk b hb).2 (by rw[List.mem_take_iff_getElem];exact⟨j,by omega,e⟩)
    rw[h3] at this
    exact absurd this (by simp)
   rw[hx] at h
   rcases Nat.lt_or_eq_of_le (Nat.le_of_not_lt hjk) with h5 |h5
   ·have:=(List.pairwise_iff_getElem.1 hL) k j hk hj h5
    rw[e] at this
    exact Qh4 h this
   ·subst h5
    rw[e] at h
    exact Qh4 h h
def mark (l:List Bool) (i:Int):List Bool:=l.set i.toNat true
theorem Qj4 (l:List Bool) (i:Int):(mark l i).length=l.length:=by simp[mark]
theorem Qml (p:List Int):∀l:List Bool,(p.foldl mark l).length=l.length:=by
 induction p with
 |nil=>exact fun _=>rfl
 |cons x r ih=>exact fun l=>(ih (mark l x)).trans (Qj4 l x)
theorem Qp1 (p:List Int):∀(l:List Bool) (i:Nat),i<l.length→(∀x∈p,0≤x)→((p.foldl mark l).getD i false=true↔((i:Int)∈p∨l.getD i false=true)):=by
 induction p with
 |nil=>exact fun l i _ _=>by simp
 |cons x r ih=>
  intro l i hi h0
  have hx:=h0 x List.mem_cons_self
  rw[List.foldl_cons,ih (mark l x) i (by rw[Qj4];exact hi) (fun y hy=>h0 y (List.mem_cons_of_mem _ hy)),List.mem_cons]
  have e:(mark l x).getD i false=true↔((i:Int)=x∨l.getD i false=true):=by
   simp only[mark,List.getD_eq_getElem?_getD,List.getElem?_set]
   by_cases h:x.toNat=i
   ·have:(i:Int)=x:=by omega
    simp[h,hi,this]
   ·have:¬(i:Int)=x:=by omega
    simp[h,this]
  rw[e]
  constructor
  ·rintro (h |h |h)
   ·exact .inl (.inr h)
   ·exact .inl (.inl h)
   ·exact .inr h
  ·rintro ((h |h) |h)
   ·exact .inr (.inl h)
   ·exact .inl h
   ·exact .inr (.inr h)
theorem Qko {L:List Int}{n k:Nat}(hr:∀x∈L,0≤x∧x<n) (i:Nat) (hi:i<n):(((L.take k).foldl mark (List.replicate n false)).getD i false=true↔(i:Int)∈L.take k):=by
 rw[Qp1 _ _ _ (by simpa using hi) (fun x hx=>(hr x (List.mem_of_mem_take hx)).1)]
 simp[hi,List.getD_eq_getElem?_getD]
def bump (l:List Int) (i:Int):List Int:=l.set i.toNat (l.getD i.toNat 0+1)
theorem Qfc (l:List Int) (i:Int):(bump l i).length=l.length:=by simp[bump]
theorem Qmw (p:List Int):∀l:List Int,(p.foldl bump l).length=l.length:=by
 induction p with
 |nil=>exact fun _=>rfl
 |cons x r ih=>exact fun l=>(ih (bump l x)).trans (Qfc l x)
theorem Qmx:∀(is l:List Int),is.Nodup→(∀x∈is,0≤x∧x<l.length)→∀i:Nat,i<l.length→(is.foldl bump l)[i]? = some (l.getD i 0+if (i:Int)∈is then 1 else 0)
 |[],l,_,_,i,hi=>by simp[List.getD_eq_getElem?_getD,hi]
 |x::is,l,hn,hb,i,hi=>by
  obtain⟨hx,hn'⟩:=List.nodup_cons.1 hn
  have hbx:=hb x (by simp)
  have ih:=Qmx is (bump l x) hn' (fun y hy=>by rw[Qfc];exact hb y (by simp[hy])) i (by rw[Qfc];exact hi)
  rw[List.foldl_cons,ih]
  congr 1
  by_cases e:(i:Int)=x
  ·subst e
   have h1:(bump l (i:Int)).getD i 0=l.getD i 0+1:=by
    unfold bump
    rw[Int.toNat_natCast,List.getD_eq_getElem?_getD,List.getElem?_set_self hi]
    rfl
   rw[h1,if_neg hx,if_pos (by simp)]
   omega
  ·have h1:(bump l x).getD i 0=l.getD i 0:=by
    unfold bump
    rw[List.getD_eq_getElem?_getD,List.getElem?_set_ne (by omega),←List.getD_eq_getElem?_getD]
   rw[h1]
   have:((i:Int)∈x::is)↔((i:Int)∈is):=by simp[e]
   simp only[this]
theorem Qrw:∀(o:List Int) (i:Nat) (x y:Int),o[i]? = some x→(o.set i y).sum=o.sum+(y-x)
 |[],_,_,_,h=>by simp at h
 |a::o,0,x,y,h=>by simp at h;subst h;simp only[List.set_cons_zero,List.sum_cons];omega
 |a::o,i+1,x,y,h=>by
  have:=Qrw o i x y (by simpa using h)
  simp only[List.set_cons_succ,List.sum_cons,this];omega
theorem Qmv:∀(is l:List Int),(∀x∈is,0≤x∧x<l.length)→(is.foldl bump l).sum=l.sum+is.length
 |[],l,_=>by simp
 |x::is,l,h=>by
  have hx:=h x (by simp)
  have hg:l[x.toNat]? = some (l.getD x.toNat 0):=by rw[List.getD_eq_getElem?_getD,List.getElem?_eq_getElem (by omega)];rfl
  rw[List.foldl_cons,Qmv is (bump l x) (fun y hy=>by rw[Qfc];exact h y (by simp[hy])),bump,Qrw l _ _ _ hg]
  simp only[List.length_cons]
  omega
def Qg5 (M:Int) (ws:List Int):List Int:=ws.map fun w=>M*w/ws.sum
def Qg4 (M:Int) (ws:List Int):Int:=M-(Qg5 M ws).sum
def Qpx (key:Int→Int) (ls:List Int) (n:Nat):Nat→List Bool→List Int
 |0,_=>[]
 |k+1,mk=>Qgc key ls mk n::Qpx key ls n k (mark mk (Qgc key ls mk n))
def Qd4 (M:Int) (ws:List Int):List Int:=(Qpx (rkey M ws.sum) ws ws.length (Qg4 M ws).toNat (List.replicate ws.length false)).foldl bump (Qg5 M ws)
theorem Qov {key:Int→Int}{ls L:List Int}(hp:L.Perm (ixs ls.length)) (hL:L.Pairwise (Qfq key ls)):∀(k j:Nat),j+k≤L.length→Qpx key ls ls.length k ((L.take j).foldl mark (List.replicate ls.length false))=(L.drop j).take k
 |0,j,_=>by simp[Qpx]
 |k+1,j,h=>by
  have hr:∀x∈L,0≤x∧x<ls.length:=fun x hx=>Qh2.1 (hp.mem_iff.1 hx)
  have hb:Qgc key ls ((L.take j).foldl mark (List.replicate ls.length false)) ls.length=L[j]'(by omega):=Qku hL (fun i hi=>hp.mem_iff.2 (Qh2.2 ⟨by omega,by omega⟩)) hr (fun i hi=>Qko hr i hi) (by omega)
  have ht:mark ((L.take j).foldl mark (List.replicate ls.length false)) (L[j]'(by omega))=(L.take (j+1)).foldl mark (List.replicate ls.length false):=by
   rw[List.take_add_one,List.getElem?_eq_getElem (by omega),List.foldl_append]
   rfl
  rw[Qpx,hb,ht,Qov hp hL k (j+1) (by omega),List.drop_eq_getElem_cons (show j<L.length by omega),List.take_succ_cons]
structure WtsV (ws:List Int):Prop where
 l1:1≤ws.length
 l2:ws.length≤20
 w:∀x∈ws,0≤x∧x≤1000
 some:∃x∈ws,x>0
theorem Qrl {ws:List Int}(h:wtsB ws=true):WtsV ws:=by
 unfold wtsB at h
 simp only[Bool.and_eq_true] at h
 obtain⟨h1,h2,h3⟩:=h
 have:=Qh3.1 h1
 refine⟨by omega,by omega,fun x hx=>Qh3.1 (List.all_eq_true.1 h2 x hx),?_⟩
 obtain⟨x,hx,h4⟩:=List.any_eq_true.1 h3
 exact⟨x,hx,by simpa using h4⟩
theorem Qpr (ws:List Int) (h:∀x∈ws,0≤x∧x≤1000):0≤ws.sum∧ws.sum≤1000*ws.length:=by
 induction ws with
 |nil=>simp
 |cons a l ih=>
  have h1:=ih fun x hx=>h x (List.mem_cons_of_mem _ hx)
  have h2:=h a List.mem_cons_self
  simp only[List.sum_cons,List.length_cons]
  omega
theorem WtsV.sum {ws:List Int}(h:WtsV ws):0<ws.sum∧ws.sum≤20000:=by
 have h1:=Qpr ws h.w
 have h2:=(Qng fun x hx=>(h.w x hx).1).2.2 h.some
 have:=h.l2
 omega
theorem WtsV.ok {ws:List Int}(h:WtsV ws) {M:Int}(h0:0≤M) (h1:M≤1000000):WOk ws M ws.sum:=⟨h.w,h0,h1,h.sum.1,h.sum.2⟩
theorem Qiy:∀(ws:List Int),(∀x∈ws,0≤x)→∀x∈ws,x≤ws.sum
 |a::l,h,x,hx=>by
  have h1:=(Qng fun y hy=>h y (List.mem_cons_of_mem a hy)).1
  have h2:=h a List.mem_cons_self
  rw[List.sum_cons]
  rcases List.mem_cons.1 hx with rfl |hx
  ·omega
  ·have:=Qiy l (fun y hy=>h y (List.mem_cons_of_mem a hy)) x hx
   omega
theorem Qo7 {M W:Int}(hM:0≤M) (hW:0<W):∀(l:List Int),(∀x∈l,0≤x)→W*(l.map fun w=>M*w/W).sum≤M*l.sum∧M*l.sum≤W*(l.map fun w=>M*w/W).sum+(W-1)*l.length∧0≤(l.map fun w=>M*w/W).sum
 |[],_=>by simp
 |x::l,h=>by
  obtain⟨h1,h2,h3⟩:=Qo7 hM hW l fun y hy=>h y (List.mem_cons_of_mem _ hy)
  have b:=h x (by simp)
  have p0:=Int.mul_nonneg hM b
  have q0:=Int.ediv_nonneg p0 (show 0≤W by omega)
  have q1:=Int.emod_add_mul_ediv (M*x) W
  have q2:=Int.emod_nonneg (M*x) (show W≠0 by omega)
  have q3:=Int.emod_lt_of_pos (M*x) hW
  simp only[List.map_cons,List.sum_cons,List.length_cons,Int.mul_add,Int.natCast_add,Int.natCast_one,Int.mul_one]
  omega
theorem Qll {M:Int}{ws:List Int}(h:WtsV ws) (h0:0≤M):0≤Qg4 M ws∧Qg4 M ws<ws.length∧0≤(Qg5 M ws).sum:=by
 obtain⟨w0,w1⟩:=h.sum
 obtain⟨b1,b2,b3⟩:=Qo7 h0 w0 ws fun x hx=>(h.w x hx).1
 have hl:=h.l1
 generalize hS:(ws.map fun w=>M*w/ws.sum).sum=S at b1 b2 b3
 have hB:(Qg5 M ws).sum=S:=hS
 unfold Qg4
 rw[hB]
 rw[Int.mul_comm M] at b1 b2
 have c1:S≤M:=Int.le_of_mul_le_mul_left b1 w0
 have c2:M<S+ws.length:=by
  apply Decidable.byContradiction
  intro hc
  have:ws.sum*(S+ws.length)≤ws.sum*M:=Int.mul_le_mul_of_nonneg_left (by omega) (by omega)
  rw[Int.mul_add] at this
  rw[Int.sub_mul] at b2
  omega
 omega
theorem Qgz {M:Int}{ws L:List Int}(h:WtsV ws) (h0:0≤M) (hp:L.Perm (ixs ws.length)) (hL:L.Pairwise (Qfq (rkey M ws.sum) ws)) :
  Qpx (rkey M ws.sum) ws ws.length (Qg4 M ws).toNat (List.replicate ws.length false)=L.take (Qg4 M ws).toNat:=by
 have hb:=Qll h h0
 have hlen:=hp.length_eq
 rw[Qee] at hlen
 have:=Qov hp hL (Qg4 M ws).toNat 0 (by omega)
 simpa using this
theorem Qjv {M:Int}{ws:List Int}(h:WtsV ws) (h0:0≤M) (h1:M≤1000000):∃L:List Int,L.Perm (ixs ws.length)∧L.Pairwise (Qfq (rkey M ws.sum) ws):=by
 obtain⟨Q,_,q2,q3⟩:=Qmf (N:=1000) (h.ok h0 h1) h.l2 h.l1 (Nat.le_refl _)
 exact⟨Q,q2,q3⟩
theorem Qe5 (M:Int) (ws:List Int):(Qg5 M ws).length=ws.length:=by simp[Qg5]
theorem Qdy (M:Int) (ws:List Int):(Qd4 M ws).length=ws.length:=by rw[Qd4,Qmw,Qe5]
theorem Qj3 {M:Int}{ws:List Int}(h:WtsV ws) (h0:0≤M) (h1:M≤1000000):(Qd4 M ws).sum=M:=by
 obtain⟨L,hp,hL⟩:=Qjv h h0 h1
 have hb:=Qll h h0
 have hlen:=hp.length_eq
 rw[Qee] at hlen
 rw[Qd4,Qgz h h0 hp hL,Qmv _ _ (fun x hx=>by rw[Qe5];exact Qh2.1 (hp.mem_iff.1 (List.mem_of_mem_take hx))),List.length_take]
 unfold Qg4 at hb ⊢
 omega
theorem Qij {M:Int}{ws:List Int}(h:WtsV ws) (h0:0≤M):∀x∈Qg5 M ws,0≤x∧x≤M:=by
 intro x hx
 obtain⟨w,hw,rfl⟩:=List.mem_map.1 hx
 obtain⟨w0,w1⟩:=h.sum
 have:=h.w w hw
 have hle:=Qiy ws (fun y hy=>(h.w y hy).1) w hw
 refine⟨Int.ediv_nonneg (Int.mul_nonneg h0 this.1) (by omega),Int.ediv_le_of_le_mul w0 ?_⟩
 exact Int.mul_le_mul_of_nonneg_left hle h0
theorem Qiz {M:Int}{ws:List Int}(h:WtsV ws) (h0:0≤M) (h1:M≤1000000):∀x∈Qd4 M ws,0≤x∧x≤M:=by
 have hs:=Qj3 h h0 h1
 obtain⟨L,hp,hL⟩:=Qjv h h0 h1
 have hnd:L.Nodup:=hp.nodup_iff.2 (Qsn _)
 have hn:∀x∈Qd4 M ws,0≤x:=fun x hx=>by
  obtain⟨i,hi⟩:=List.mem_iff_getElem?.1 hx
  have hil:i<ws.length:=by have:=(List.getElem?_eq_some_iff.1 hi).1;rwa [Qdy] at this
  rw[Qd4,Qgz h h0 hp hL,Qmx _ _ (hnd.sublist (List.take_sublist _ _)) (fun x hx=>by rw[Qe5];exact Qh2.1 (hp.mem_iff.1 (List.mem_of_mem_take hx))) i (by rw[Qe5];exact hil)] at hi
  have hbx:=Qij h h0 ((Qg5 M ws)[i]'(by rw[Qe5];exact hil)) (List.getElem_mem _)
  have hg:(Qg5 M ws).getD i 0=(Qg5 M ws)[i]'(by rw[Qe5];exact hil):=by rw[List.getD_eq_getElem?_getD,List.getElem?_eq_getElem (by rw[Qe5];exact hil)];rfl
  rw[hg] at hi
  have:=Option.some.inj hi
  split at this<;>omega
 intro x hx
 exact⟨hn x hx,by rw[←hs];exact Qiy _ hn x hx⟩
section
variable {N : Nat} {M : Int} {ws : List Int} (h : WtsV ws) (h0 : 0 ≤ M) (h1 : M ≤ 1000000) (hN : 1001 ≤ N)
include h in
theorem Qpp (k:Int→Option (List Int)):∀(n i:Nat) (s:Int),(ws.drop i).length<n→0≤s→s≤1000*i→Qcj N ws k n i s=k (s+(ws.drop i).sum):=by
 intro n
 induction n with
 |zero=>intro i _ h;cases h
 |succ n ih=>
  intro i s hn s0 s1
  rw[Qcj]
  cases hd:ws.drop i with
  |nil=>
   have:=Qec hd
   simp[show ¬((i:Int)<ws.length) from by omega]
  |cons a l=>
   obtain⟨hg,hd',hlt⟩:=Qdu hd
   have ha:=h.w a (List.mem_of_getElem? hg)
   have:=h.l2
   simp only[dlI hlt,cond_true,Qe4 hg,Option.bind_some,List.sum_cons]
   rw[Qb6 (x:=(i:Int)+1) (by omega) (by omega),Qb6 (x:=s+a) (by omega) (by omega),show(i:Int)+1=((i+1:Nat):Int) by omega,ih (i+1) (s+a) (by rw[hd'];rw[hd] at hn;simp at hn;omega) (by omega) (by omega),hd',Int.add_assoc]
include h h0 h1 in
theorem Qth (k:Int×List Int→Option (List Int)):∀(n i:Nat) (r:Int) (o:List Int),(ws.drop i).length<n→i≤ws.length→o.length=ws.length-i→-1000000*(i:Int)≤r→r≤1000000 →
  Qck N M ws ws.sum k n r i (((ws.take i).map fun w=>M*w/ws.sum)++o)=k (r-((ws.drop i).map fun w=>M*w/ws.sum).sum,Qg5 M ws):=by
 intro n
 induction n with
 |zero=>intro i _ _ h;cases h
 |succ n ih=>
  intro i r o hn hi ho r0 r1
  rw[Qck]
  cases hd:ws.drop i with
  |nil=>
   have:=Qec hd
   have e:o=[]:=List.length_eq_zero_iff.1 (by omega)
   simp[show ¬((i:Int)<ws.length) from by omega,e,List.take_of_length_le this,Qg5]
  |cons a l=>
   obtain⟨hg,hd',hlt⟩:=Qdu hd
   have ha:=h.w a (List.mem_of_getElem? hg)
   have hl2:=h.l2
   obtain⟨p0,p1⟩:=h.sum
   obtain⟨x,o',rfl⟩:∃x o',o=x::o':=by
    cases o with
    |nil=>simp at ho;omega
    |cons x o'=>exact⟨x,o',rfl⟩
   have hb:=Qij h h0 (M*a/ws.sum) (List.mem_map.2 ⟨a,List.mem_of_getElem? hg,rfl⟩)
   have hp:=bdp h0 h1 ha.1 ha.2 (by omega)
   have hlt':((ws.take i).map fun w=>M*w/ws.sum).length=i:=by simp;omega
   have e2:∀y,(((ws.take i).map fun w=>M*w/ws.sum)++y::o')[i]? = some y:=fun y=>by rw[List.getElem?_append_right (by omega),hlt'];simp
   have e3:(((ws.take i).map fun w=>M*w/ws.sum)++x::o').set i (M*a/ws.sum)=((ws.take i).map fun w=>M*w/ws.sum)++(M*a/ws.sum)::o':=by
    rw[List.set_append_right _ _ (by omega),hlt',Nat.sub_self,List.set_cons_zero]
   have e5:((ws.take i).map fun w=>M*w/ws.sum)++(M*a/ws.sum)::o'=((ws.take (i+1)).map fun w=>M*w/ws.sum)++o':=by
    rw[List.take_add_one,hg];simp
   have e4:((i:Int):Int).toNat=i:=by omega
   have c1:(decide ((0:Int)≤(i:Int))&&decide (i<(ws.length:Int).toNat))=true:=by simp;omega
   have ev:w64 ((w64 (M*a)).tdiv ws.sum)=M*a/ws.sum:=by
    rw[Qb6 (x:=M*a) (by omega) (by omega),Int.tdiv_eq_ediv_of_nonneg hp.1,Qb6 (by omega) (by omega)]
   simp only[dlI hlt,cond_true,Qe4 hg,Option.bind_some,chk,show(ws.sum != 0)=true from by rw[bne_iff_ne];omega,e4,c1,e2,ev,e3]
   rw[Qb6 (x:=(i:Int)+1) (by omega) (by omega),Qb6 (x:=r-M*a/ws.sum) (by omega) (by omega),show(i:Int)+1=((i+1:Nat):Int) by omega,e5,ih (i+1) _ o' (by rw[hd'];rw[hd] at hn;simp at hn;omega) (by omega) (by simp at ho;omega) (by omega) (by omega),hd',List.map_cons,List.sum_cons]
   congr 2
   omega
theorem Qtf (k:List Int→Option (List Int)) (x13:List Int) (y6:Int) (is:List Int) (his:x13.take (y6.toNat-0)=is) (hlen:is.length≤20) (hr:∀x∈is,0≤x∧x<ws.length):∀(n i:Nat) (o:List Int),(is.drop i).length<n→o.length=ws.length→(∀x∈o,0≤x∧x≤1000000+i) →
  Qcl N ws y6 k x13 n i o=k ((is.drop i).foldl bump o):=by
 intro n
 induction n with
 |zero=>intro i _ h;cases h
 |succ n ih=>
  intro i o hn ho hob
  rw[Qcl,his]
  cases hd:is.drop i with
  |nil=>
   have:=Qec hd
   simp[show ¬((i:Int)<is.length) from by omega]
  |cons b t=>
   obtain⟨hg,hd',hlt⟩:=Qdu hd
   obtain⟨b0,b1⟩:=hr b (List.mem_of_getElem? hg)
   have hx:o[b.toNat]? = some (o.getD b.toNat 0):=by rw[List.getD_eq_getElem?_getD,List.getElem?_eq_getElem (by omega)];rfl
   have hxb:=hob _ (List.mem_of_getElem? hx)
   have c1:(decide ((0:Int)≤b)&&decide (b.toNat<(ws.length:Int).toNat))=true:=by simp;omega
   simp only[dlI hlt,cond_true,Qe4 hg,Option.bind_some,chk,c1,hx]
   rw[Qb6 (x:=(i:Int)+1) (by omega) (by omega),Qb6 (x:=o.getD b.toNat 0+1) (by omega) (by omega),show(i:Int)+1=((i+1:Nat):Int) by omega]
   have:=ih (i+1) (bump o b) (by rw[hd'];rw[hd] at hn;simp at hn;omega) (by rw[Qfc];exact ho) (fun z hz=>by
    rcases List.mem_or_eq_of_mem_set hz with hz |rfl
    ·have:=hob z hz;omega
    ·omega)
   rw[hd'] at this
   exact this
include h h0 h1 hN in
theorem Qsf:Qeu N M ws=some (Qd4 M ws):=by
 have hl1:=h.l1
 have hl2:=h.l2
 unfold Qeu
 simp only[Qcd]
 refine(Qpp h _ N 0 0 (by simp;omega) (by omega) (by omega)).trans ?_
 rw[List.drop_zero,Int.zero_add]
 simp only[chk]
 rw[show(decide ((0:Int)≤(ws.length:Int))&&decide (8*(ws.length:Int)≤281474976710656)&&decide ((ws.length:Int)≤9223372036854775807))=true from by simp;omega,cond_true]
 have eo:=fun k=>Qth (N:=N) h h0 h1 k N 0 M (List.replicate (ws.length:Int).toNat 0) (by simp;omega) (by omega) (by simp) (by omega) h1
 simp only[List.take_zero,List.map_nil,List.nil_append,List.drop_zero] at eo
 refine(eo _).trans ?_
 dsimp only
 obtain⟨Q,q1,q2,q3⟩:=Qmf (N:=N) (h.ok h0 h1) hl2 hl1 (by omega)
 have hlen:=q2.length_eq
 rw[Qee] at hlen
 have hb:=Qll h h0
 have hL:M-(ws.map fun w=>M*w/ws.sum).sum=Qg4 M ws:=rfl
 rw[q1,Option.bind_some,hL,show(decide ((0:Nat)≤0)&&decide (0≤Qg4 M ws)&&decide (Qg4 M ws≤(Q.length:Int)))=true from by simp;omega,cond_true]
 have hr:∀x∈Q.take ((Qg4 M ws).toNat-0),0≤x∧x<ws.length:=fun x hx=>Qh2.1 (q2.mem_iff.1 (List.mem_of_mem_take hx))
 refine(Qtf _ Q (Qg4 M ws) _ rfl (by rw[List.length_take];omega) hr N 0 (Qg5 M ws) (by rw[List.drop_zero,List.length_take];omega) (Qe5 _ _) (fun x hx=>by have:=Qij h h0 x hx;omega)).trans ?_
 have hm:(Q.take ((Qg4 M ws).toNat-0)).foldl bump (Qg5 M ws)=Qd4 M ws:=by
  rw[Qd4,Qgz h h0 q2 q3,Nat.sub_zero]
 rw[List.drop_zero,hm,Qdy,show decide ((ws.length:Int).toNat≤ws.length)=true from by simp,cond_true,List.take_of_length_le (by rw[Qdy];simp)]
end
end
section
def totS (l:List Qaa):Qaa:=⟨(l.map fun s=>s.Mass).sum,(l.map fun s=>s.Heat).sum,(l.map fun s=>s.Silica).sum,(l.map fun s=>s.Gas).sum⟩
def totW (l:List Qaa):Qaa:=⟨w64 (totS l).Mass,w64 (totS l).Heat,w64 (totS l).Silica,w64 (totS l).Gas⟩
theorem Qot:w64 0=0:=by decide
theorem Qrp (N:Nat) (l:List Qaa) (k:Int×Int×Int×Int→Option Qaa) (hl:l.length≤1000000):∀(n i:Nat) (a b c d:Int),(l.drop i).length<n →
  Qc6 N l k n i (w64 a) (w64 b) (w64 c) (w64 d)=k (w64 (a+(totS (l.drop i)).Mass),w64 (b+(totS (l.drop i)).Heat),w64 (c+(totS (l.drop i)).Silica),w64 (d+(totS (l.drop i)).Gas)):=by
 intro n
 induction n with
 |zero=>intro i _ _ _ _ h;cases h
 |succ n ih=>
  intro i a b c d h
  rw[Qc6]
  cases hd:l.drop i with
  |nil=>
   have:=Qec hd
   simp[show ¬((i:Int)<l.length) from by omega,totS]
  |cons x q=>
   obtain⟨hg,hd',hlt⟩:=Qdu hd
   simp only[dlI hlt,cond_true,Qe4 hg,Qfd,Qbl,Option.bind_some,Qi6]
   rw[w64S (i:=i) (by omega),ih (i+1) _ _ _ _ (dlt hd hd' h),hd']
   simp only[totS,List.map_cons,List.sum_cons,Int.add_assoc]
theorem Qrq {N:Nat}{l:List Qaa}(hl:l.length≤1000) (hN:1001≤N):Qe7 N l=some (totW l):=by
 unfold Qe7
 simp only[Qcd]
 have:=Qrp N l (fun x=>match x with |(y1,y2,y3,y4)=>some (⟨y1,y2,y3,y4⟩:Qaa)) (by omega) N 0 0 0 0 0 (by simp;omega)
 rw[Qot,List.drop_zero] at this
 refine this.trans ?_
 simp[totW]
theorem Qmb (s:Qaa) (l:List Qaa):totS (s::l)=⟨s.Mass+(totS l).Mass,s.Heat+(totS l).Heat,s.Silica+(totS l).Silica,s.Gas+(totS l).Gas⟩:=by simp[totS]
structure TotV (t:Qaa) (n:Nat):Prop where
 m0:0≤t.Mass
 m1:t.Mass≤1000000*n
 h0:0≤t.Heat
 h1:t.Heat≤4000*t.Mass
 s0:0≤t.Silica
 s1:t.Silica≤10000*t.Mass
 g0:0≤t.Gas
 g1:t.Gas≤1000000000*n
theorem Qk6:∀{l:List Qaa},(∀s∈l,StrV s)→TotV (totS l) l.length
 |[],_=>⟨by decide,by decide,by decide,by decide,by decide,by decide,by decide,by decide⟩
 |s::l,h=>by
  obtain⟨a1,a2,a3,a4,a5,a6,a7,a8⟩:=Qk6 fun x hx=>h x (List.mem_cons_of_mem s hx)
  obtain⟨b1,b2,b3,b4,b5,b6,b7,b8⟩:=h s List.mem_cons_self
  rw[Qmb]
  refine⟨?_,?_,?_,?_,?_,?_,?_,?_⟩<;>simp only[List.length_cons]<;>omega
theorem Qv8 {l:List Qaa}(h:∀s∈l,StrV s) (hl:l.length≤1000):totW l=totS l:=by
 obtain⟨a1,a2,a3,a4,a5,a6,a7,a8⟩:=Qk6 h
 have:(l.length:Int)≤1000:=by omega
 unfold totW
 rw[Qb6 (x:=(totS l).Mass) (by omega) (by omega),Qb6 (x:=(totS l).Heat) (by omega) (by omega),Qb6 (x:=(totS l).Silica) (by omega) (by omega),Qb6 (x:=(totS l).Gas) (by omega) (by omega)]
def mx (s:Qaa):Int:=if s.Mass>1 then s.Mass else 1
def Qix (s:Qaa) (m:Int):Qaa:=⟨m,s.Heat*m/mx s,s.Silica*m/mx s,s.Gas*m/mx s⟩
def Qgu (s:Qaa) (ws:List Int):List Qaa:=(Qd4 s.Mass ws).map (Qix s)
def Qnt (s:Qaa) (ws:List Int):Qdk:=⟨s.Heat-(totS (Qgu s ws)).Heat,s.Silica-(totS (Qgu s ws)).Silica,s.Gas-(totS (Qgu s ws)).Gas⟩
theorem Qmk (s:Qaa):0<mx s:=by unfold mx;split<;>omega
theorem Qwp {s:Qaa}(h:0≤s.Mass):s.Mass≤mx s:=by unfold mx;split<;>omega
theorem Qr3 {n m c:Int}{s:Qaa}(hM:0≤s.Mass) (hm:0≤m) (hn:n≤c*s.Mass) (hc:0≤c):n*m/mx s≤c*m:=by
 have h1:n*m≤c*s.Mass*m:=Int.mul_le_mul_of_nonneg_right hn hm
 have h2:c*s.Mass*m≤c*m*mx s:=by
  rw[Int.mul_assoc,Int.mul_assoc,Int.mul_comm s.Mass m]
  exact Int.mul_le_mul_of_nonneg_left (Int.mul_le_mul_of_nonneg_left (Qwp hM) hm) hc
 exact Int.ediv_le_of_le_mul (Qmk s) (Int.le_trans h1 h2)
theorem Qj0 {n m:Int}{s:Qaa}(hM:0≤s.Mass) (hm:0≤m) (hmM:m≤s.Mass) (hn:0≤n):0≤n*m/mx s∧n*m/mx s≤n:=by
 have hp:=Qmk s
 refine⟨Int.ediv_nonneg (Int.mul_nonneg hn hm) (by omega),Int.ediv_le_of_le_mul hp ?_⟩
 have:=Qwp hM
 exact Int.mul_le_mul_of_nonneg_left (by omega) hn
theorem Quo {s:Qaa}(hs:StrV s) {m:Int}(h0:0≤m) (h1:m≤s.Mass):StrV (Qix s m):=by
 obtain⟨a1,a2,a3,a4,a5,a6,a7,a8⟩:=hs
 have b1:=Qj0 a1 h0 h1 a3
 have b2:=Qr3 a1 h0 a4 (by omega)
 have b3:=Qj0 a1 h0 h1 a5
 have b4:=Qr3 a1 h0 a6 (by omega)
 have b5:=Qj0 a1 h0 h1 a7
 exact⟨h0,by dsimp only[Qix];omega,b1.1,b2,b3.1,b4,b5.1,by dsimp only[Qix];omega⟩
theorem Qow {n:Int}{s:Qaa}(hn:0≤n):∀(l:List Int),(∀m∈l,0≤m)→mx s*(l.map fun m=>n*m/mx s).sum≤n*l.sum
 |[],_=>by simp
 |m::l,h=>by
  have h1:=Qow (n:=n) (s:=s) hn l fun x hx=>h x (List.mem_cons_of_mem _ hx)
  have hp:=Qmk s
  have h2:=Int.mul_ediv_self_le (x:=n*m) (k:=mx s) (by omega)
  simp only[List.map_cons,List.sum_cons,Int.mul_add]
  omega
theorem Qlh {n:Int}{s:Qaa}(hn:0≤n) (hM:0≤s.Mass) {l:List Int}(h:∀m∈l,0≤m) (hl:l.sum=s.Mass):(l.map fun m=>n*m/mx s).sum≤n:=by
 have h1:=Qow (s:=s) hn l h
 have hp:=Qmk s
 rw[hl] at h1
 have h2:n*s.Mass≤n*mx s:=Int.mul_le_mul_of_nonneg_left (Qwp hM) hn
 rw[Int.mul_comm n (mx s)] at h2
 exact Int.le_of_mul_le_mul_left (Int.le_trans h1 h2) hp
theorem Qpq (s:Qaa) (l:List Int):totS (l.map (Qix s))=⟨l.sum,(l.map fun m=>s.Heat*m/mx s).sum,(l.map fun m=>s.Silica*m/mx s).sum,(l.map fun m=>s.Gas*m/mx s).sum⟩:=by
 simp[totS,Qix,Function.comp_def]
structure Qzu (s:Qaa) (o:List Qaa) (l:Qdk):Prop where
 v:∀x∈o,StrV x
 m:(totS o).Mass=s.Mass
 h:(totS o).Heat+l.Heat=s.Heat
 q:(totS o).Silica+l.Silica=s.Silica
 g:(totS o).Gas+l.Gas=s.Gas
 h0:0≤l.Heat
 q0:0≤l.Silica
 g0:0≤l.Gas
theorem Qhn {s:Qaa}(hs:StrV s) {ws:List Int}(h:WtsV ws):Qzu s (Qgu s ws) (Qnt s ws):=by
 have hs':=hs
 obtain⟨a1,a2,a3,a4,a5,a6,a7,a8⟩:=hs'
 have hsum:=Qj3 h a1 a2
 have hbd:=Qiz h a1 a2
 have hnn:∀m∈Qd4 s.Mass ws,0≤m:=fun m hm=>(hbd m hm).1
 have e:totS (Qgu s ws)=_:=Qpq s (Qd4 s.Mass ws)
 have t1:=Qlh (n:=s.Heat) (s:=s) a3 a1 hnn hsum
 have t2:=Qlh (n:=s.Silica) (s:=s) a5 a1 hnn hsum
 have t3:=Qlh (n:=s.Gas) (s:=s) a7 a1 hnn hsum
 refine⟨fun x hx=>?_,?_,?_,?_,?_,?_,?_,?_⟩
 ·obtain⟨m,hm,rfl⟩:=List.mem_map.1 hx
  exact Quo hs (hbd m hm).1 (hbd m hm).2
 ·rw[e];exact hsum
 all_goals (simp only[Qnt,e];omega)
section
variable {N : Nat} {s : Qaa} {ws : List Int} (hs : StrV s) (h : WtsV ws) (hN : 1001 ≤ N)
include hs in
theorem Qr5 {n m:Int}(hn:0≤n) (hn':n≤10000000000) (h0:0≤m) (h1:m≤s.Mass) (a b c:Int):Qc8 N n m s.Mass a b c=some (n*m/mx s):=by
 have hM:=hs.m1
 have hM0:=hs.m0
 have hp:=bdp hn hn' h0 (show m≤1000000 by omega) (by omega)
 have hb:=Qj0 hM0 h0 h1 hn
 have hx:=Qmk s
 unfold Qc8
 show chk (mx s != 0) ((some (w64 ((w64 (n*m)).tdiv (mx s)))).bind fun x2=>some x2)=_
 rw[show(mx s != 0)=true by rw[bne_iff_ne];omega,Qb6 (x:=n*m) (by omega) (by omega),Int.tdiv_eq_ediv_of_nonneg hp.1,Qb6 (by omega) (by omega)]
 rfl
include hs in
theorem Qpy (k:List Qaa→Option (List Qaa×Qdk×Int)) (l:List Int) (hl:l.length≤20) (hb:∀m∈l,0≤m∧m≤s.Mass):∀(n i:Nat) (acc:List Qaa),(l.drop i).length<n→acc.length=i →
  Qcr N s k l n acc i=k (acc++(l.drop i).map (Qix s)):=by
 intro n
 induction n with
 |zero=>intro i _ h;cases h
 |succ n ih=>
  intro i acc h ha
  rw[Qcr]
  cases hd:l.drop i with
  |nil=>
   have:=Qec hd
   simp[show ¬((i:Int)<l.length) from by omega]
  |cons m q=>
   obtain⟨hg,hd',hlt⟩:=Qdu hd
   obtain⟨m0,m1⟩:=hb m (List.mem_of_getElem? hg)
   have a1:=hs.m1
   simp only[dlI hlt,cond_true,Qe4 hg,Option.bind_some,Qr5 (N:=N) hs hs.h0 (by have:=hs.h1;omega) m0 m1,Qr5 (N:=N) hs hs.s0 (by have:=hs.s1;omega) m0 m1,Qr5 (N:=N) hs hs.g0 (by have:=hs.g1;omega) m0 m1,chk]
   have hc:decide ((acc.length+[(⟨m,s.Heat*m/mx s,s.Silica*m/mx s,s.Gas*m/mx s⟩:Qaa)].length)*32≤140737488355328)=true:=by simp;omega
   rw[hc,cond_true,w64S (i:=i) (by omega),
    ih (i+1) _ (dlt hd hd' h) (by simp[ha]),hd',List.append_assoc]
   rfl
include h hN in
theorem Qrm:Qc7 N ws=some true∧Qa0 N ws=some true:=by
 have hl:=h.l2
 have hc:Qa8 N ws=some (ws.any fun x=>!btw x 0 1000):=by
  unfold Qa8 Qca Qcd
  refine Qfp (F:=Qa3 N ws fun _=>some (-1)) (k:=fun _=>some (-1)) (q:=Qcq N) (fun n y=>rfl) (fun x=>?_) rfl (by omega) (by omega)
  simp only[Qcq,Qeh,Qip,Option.bind_some]
 constructor
 ·unfold Qc7
  rw[hc,Option.bind_some,Qog]
  congr 1
  exact List.all_eq_true.2 fun x hx=>Qh3.2 (h.w x hx)
 ·have:Qa0 N ws=some (ws.any fun x=>decide (x>0)):=by
   unfold Qa0 Qb9 Qcd
   exact Qfp (F:=Qa2 N ws fun _=>some (-1)) (k:=fun _=>some (-1)) (q:=Qeg N) (fun n y=>rfl) (fun x=>rfl) rfl (by omega) (by omega)
  rw[this]
  congr 1
  obtain⟨x,hx,hp⟩:=h.some
  exact List.any_eq_true.2 ⟨x,hx,by simpa using hp⟩
include hs h hN in
theorem Qum:Qdm N s ws=some (Qgu s ws,Qnt s ws,0):=by
 have hl:=h.l2
 obtain⟨w1,w2⟩:=Qrm h hN
 have hK:=Qhn hs h
 have hlen:(Qgu s ws).length=ws.length:=by unfold Qgu;rw[List.length_map,Qdy]
 unfold Qdm
 simp only[Qcd,Qk5,Qk7.2 hs,Option.bind_some,Bool.not_true,cond_false,w1,w2,show decide ((ws.length:Int)>20)=false from by simp;omega,Qsf h hs.m0 hs.m1 hN]
 refine(Qpy hs _ (Qd4 s.Mass ws) (by rw[Qdy];exact hl) (Qiz h hs.m0 hs.m1) N 0 [] (by rw[List.drop_zero,Qdy];omega) rfl).trans ?_
 rw[List.drop_zero,List.nil_append]
 show(Qe7 N (Qgu s ws)).bind _=_
 rw[Qrq (by omega) hN,Option.bind_some,Qv8 hK.v (by omega)]
 obtain⟨_,k1,k2,k3,k4,k5,k6,k7⟩:=hK
 have g1:=hs.h1
 have g2:=hs.s1
 have g3:=hs.g1
 have g4:=hs.m1
 have v:=Qk6 (Qhn hs h).v
 have:=v.h0
 have:=v.s0
 have:=v.g0
 unfold Qnt at *
 dsimp only at *
 rw[Qb6 (x:=s.Heat-_) (by omega) (by omega),Qb6 (x:=s.Silica-_) (by omega) (by omega),Qb6 (x:=s.Gas-_) (by omega) (by omega)]
 rfl
end
end
section
theorem Qrr (N:Nat) (l:List Qaa) (k:Unit→Option Bool) (hl:l.length≤1000):∀(m i:Nat),(l.drop i).length<m →
  Qcf N l k m i=bif (l.drop i).all strB then k () else some false:=by
 intro m
 induction m with
 |zero=>intro i h;cases h
 |succ m ih=>
  intro i h
  rw[Qcf]
  cases hd:l.drop i with
  |nil=>
   have:=Qec hd
   simp[show ¬((i:Int)<l.length) from by omega]
  |cons x q=>
   obtain⟨hg,hd',hlt⟩:=Qdu hd
   simp only[dlI hlt,cond_true,Qe4 hg,Option.bind_some,Qmd,List.all_cons]
   cases strB x with
   |false=>rfl
   |true=>rw[Bool.not_true,cond_false,w64S (i:=i) (by omega),ih (i+1) (dlt hd hd' h),hd',Bool.true_and]
theorem Quh {N:Nat}{l:List Qaa}(hl:l.length≤1000) (hN:1001≤N):Qei N l=some (l.all strB):=by
 unfold Qei
 simp only[Qcd]
 refine(Qrr N l _ hl N 0 (by simp;omega)).trans ?_
 rw[List.drop_zero]
 cases l.all strB<;>rfl
end
section
theorem Ql8 (a b:Int):w64 (w64 a-b)=w64 (a-b):=by
 unfold w64
 rw[IntKind.wrap_i64,IntKind.wrap_i64,IntKind.wrap_i64]
 omega
theorem Qrn (N:Nat) (l:List Qaa) (k:Int×Int×Int×Int→Option Qaa) (hl:l.length≤1000000):∀(n i:Nat) (a b c d:Int),(l.drop i).length<n →
  Qc9 N l k n i (w64 a) (w64 b) (w64 c) (w64 d)=k (w64 (a+(totS (l.drop i)).Mass),w64 (b+(totS (l.drop i)).Heat),w64 (c+(totS (l.drop i)).Silica),w64 (d+(totS (l.drop i)).Gas)):=by
 intro n
 induction n with
 |zero=>intro i _ _ _ _ h;cases h
 |succ n ih=>
  intro i a b c d h
  rw[Qc9]
  cases hd:l.drop i with
  |nil=>
   have:=Qec hd
   simp[show ¬((i:Int)<l.length) from by omega,totS]
  |cons x q=>
   obtain⟨hg,hd',hlt⟩:=Qdu hd
   simp only[dlI hlt,cond_true,Qe4 hg,Option.bind_some,Qi6]
   rw[w64S (i:=i) (by omega),ih (i+1) _ _ _ _ (dlt hd hd' h),hd']
   simp only[totS,List.map_cons,List.sum_cons,Int.add_assoc]
theorem Qro {N:Nat}{l:List Qaa}(hl:l.length≤1000) (hN:1001≤N):Qfb N l=some (totW l):=by
 unfold Qfb
 simp only[Qcd]
 have:=Qrn N l (fun x=>match x with |(y1,y2,y3,y4)=>some (⟨y1,y2,y3,y4⟩:Qaa)) (by omega) N 0 0 0 0 0 (by simp;omega)
 rw[Qot,List.drop_zero] at this
 refine this.trans ?_
 simp[totW]
section
variable {N : Nat} {s : Qaa} {ws : List Int} (hs : StrV s) (h : WtsV ws) (hN : 1001 ≤ N)
include h in
theorem Qnd (k:Int→Option (List Qaa×Qdk)):∀(n i:Nat) (a:Int),(ws.drop i).length<n→0≤a→a≤1000*i→Qcu N ws k n a i=k (a+(ws.drop i).sum):=by
 intro n
 induction n with
 |zero=>intro i _ h;cases h
 |succ n ih=>
  intro i a hn s0 s1
  rw[Qcu]
  cases hd:ws.drop i with
  |nil=>
   have:=Qec hd
   simp[show ¬((i:Int)<ws.length) from by omega]
  |cons x l=>
   obtain⟨hg,hd',hlt⟩:=Qdu hd
   have ha:=h.w x (List.mem_of_getElem? hg)
   have:=h.l2
   simp only[dlI hlt,cond_true,Qe4 hg,Option.bind_some,List.sum_cons]
   rw[Qb6 (x:=(i:Int)+1) (by omega) (by omega),Qb6 (x:=a+x) (by omega) (by omega),show(i:Int)+1=((i+1:Nat):Int) by omega,ih (i+1) (a+x) (by rw[hd'];rw[hd] at hn;simp at hn;omega) (by omega) (by omega),hd',Int.add_assoc]
include hs h in
theorem Qp7 (k:Int×List Int→Option (List Qaa×Qdk)):∀(n i:Nat) (r:Int) (o:List Int),(ws.drop i).length<n→i≤ws.length→o.length=ws.length-i→-1000000*(i:Int)≤r→r≤1000000 →
  Qcv N s ws ws.sum k n r i (((ws.take i).map fun w=>s.Mass*w/ws.sum)++o)=k (r-((ws.drop i).map fun w=>s.Mass*w/ws.sum).sum,Qg5 s.Mass ws):=by
 intro n
 induction n with
 |zero=>intro i _ _ h;cases h
 |succ n ih=>
  intro i r o hn hi ho r0 r1
  rw[Qcv]
  cases hd:ws.drop i with
  |nil=>
   have:=Qec hd
   have e:o=[]:=List.length_eq_zero_iff.1 (by omega)
   simp[show ¬((i:Int)<ws.length) from by omega,e,List.take_of_length_le this,Qg5]
  |cons a l=>
   obtain⟨hg,hd',hlt⟩:=Qdu hd
   have ha:=h.w a (List.mem_of_getElem? hg)
   have hl2:=h.l2
   have h0:=hs.m0
   have h1:=hs.m1
   obtain⟨p0,p1⟩:=h.sum
   obtain⟨x,o',rfl⟩:∃x o',o=x::o':=by
    cases o with
    |nil=>simp at ho;omega
    |cons x o'=>exact⟨x,o',rfl⟩
   have hb:=Qij h h0 (s.Mass*a/ws.sum) (List.mem_map.2 ⟨a,List.mem_of_getElem? hg,rfl⟩)
   have hp:=bdp h0 h1 ha.1 ha.2 (by omega)
   have hlt':((ws.take i).map fun w=>s.Mass*w/ws.sum).length=i:=by simp;omega
   have e2:∀y,(((ws.take i).map fun w=>s.Mass*w/ws.sum)++y::o')[i]? = some y:=fun y=>by rw[List.getElem?_append_right (by omega),hlt'];simp
   have e3:(((ws.take i).map fun w=>s.Mass*w/ws.sum)++x::o').set i (s.Mass*a/ws.sum)=((ws.take i).map fun w=>s.Mass*w/ws.sum)++(s.Mass*a/ws.sum)::o':=by
    rw[List.set_append_right _ _ (by omega),hlt',Nat.sub_self,List.set_cons_zero]
   have e5:((ws.take i).map fun w=>s.Mass*w/ws.sum)++(s.Mass*a/ws.sum)::o'=((ws.take (i+1)).map fun w=>s.Mass*w/ws.sum)++o':=by
    rw[List.take_add_one,hg];simp
   have e4:((i:Int):Int).toNat=i:=by omega
   have c1:(decide ((0:Int)≤(i:Int))&&decide (i<(ws.length:Int).toNat))=true:=by simp;omega
   have ev:w64 ((w64 (s.Mass*a)).tdiv ws.sum)=s.Mass*a/ws.sum:=by
    rw[Qb6 (x:=s.Mass*a) (by omega) (by omega),Int.tdiv_eq_ediv_of_nonneg hp.1,Qb6 (by omega) (by omega)]
   simp only[dlI hlt,cond_true,Qe4 hg,Option.bind_some,chk,show(ws.sum != 0)=true from by rw[bne_iff_ne];omega,e4,c1,e2,ev,e3]
   rw[Qb6 (x:=(i:Int)+1) (by omega) (by omega),Qb6 (x:=r-s.Mass*a/ws.sum) (by omega) (by omega),show(i:Int)+1=((i+1:Nat):Int) by omega,e5,ih (i+1) _ o' (by rw[hd'];rw[hd] at hn;simp at hn;omega) (by omega) (by simp at ho;omega) (by omega) (by omega),hd',List.map_cons,List.sum_cons]
   congr 2
   omega
theorem Qu4 (key:Int→Int) (ls:List Int) (mk:List Bool) (d:Nat):-1≤Qgc key ls mk d∧Qgc key ls mk d<d:=by
 rcases Qi4 key ls mk d with ⟨_,e⟩ |⟨b,hb,e,_⟩<;>rw[e]<;>omega
include hs h in
theorem Qtg (mk:List Bool) (hm:mk.length=ws.length) (k:Int→Option (List Qaa×Qdk)):∀(n i:Nat),ws.length-i<n→i≤ws.length →
  Qbv N s ws ws.sum mk k n (Qgc (rkey s.Mass ws.sum) ws mk i) i=k (Qgc (rkey s.Mass ws.sum) ws mk ws.length):=by
 intro n
 induction n with
 |zero=>intro i h;cases h
 |succ n ih=>
  intro i hn hi
  have hl2:=h.l2
  have h0:=hs.m0
  have h1:=hs.m1
  obtain⟨p0,p1⟩:=h.sum
  rw[Qbv]
  by_cases hlt:i<ws.length
  ·have hgm:mk[i]? = some (mk.getD i false):=by rw[List.getD_eq_getElem?_getD,List.getElem?_eq_getElem (by omega)];rfl
   have hgw:∀j:Nat,j<ws.length→ws[j]? = some (ws.getD j 0):=fun j hj=>by rw[List.getD_eq_getElem?_getD,List.getElem?_eq_getElem hj];rfl
   have c1:(decide ((0:Int)≤(i:Int))&&decide (i<ws.length))=true:=by simp;omega
   have hih:=ih (i+1) (by omega) hlt
   have hrk:∀x∈ws,(w64 (s.Mass*x)).tmod ws.sum=rkey s.Mass ws.sum x:=fun x hx=>by
    have hx':=h.w x hx
    have hp:=bdp h0 h1 hx'.1 hx'.2 (by omega)
    rw[Qb6 (by omega) (by omega),Int.tmod_eq_emod_of_nonneg hp.1]
    rfl
   simp only[show decide ((i:Int)<(ws.length:Int))=true from by simpa using hlt,cond_true,chk,Int.toNat_natCast,c1,hgm,Option.bind_some]
   rw[w64S (i:=i) (by omega)]
   rw[Qgc] at hih
   cases hmk:mk.getD i false with
   |true=>
    rw[if_neg (by rw[hmk];simp)] at hih
    simp only[Bool.not_true,cond_false]
    exact hih
   |false=>
    simp only[Bool.not_false,cond_true]
    by_cases hb:Qgc (rkey s.Mass ws.sum) ws mk i<0
    ·rw[if_pos ⟨hmk,.inl hb⟩] at hih
     rw[decide_eq_true hb,cond_true]
     exact hih
    ·have hbb:=Qu4 (rkey s.Mass ws.sum) ws mk i
     rw[decide_eq_false hb,cond_false]
     have g1:=hgw i hlt
     have g2:=hgw (Qgc (rkey s.Mass ws.sum) ws mk i).toNat (by omega)
     have g2':getI ws (Qgc (rkey s.Mass ws.sum) ws mk i)=some (ws.getD (Qgc (rkey s.Mass ws.sum) ws mk i).toNat 0):=by
      unfold getI;rw[if_pos (by omega),g2]
     simp only[Qe4 g1,g2',Option.bind_some,show(ws.sum != 0)=true from by rw[bne_iff_ne];omega,cond_true,hrk _ (List.mem_of_getElem? g1),hrk _ (List.mem_of_getElem? g2)]
     by_cases hc:rkey s.Mass ws.sum (ws.getD i 0)>rkey s.Mass ws.sum (ws.getD (Qgc (rkey s.Mass ws.sum) ws mk i).toNat 0)
     ·rw[if_pos ⟨hmk,.inr (by omega)⟩] at hih
      rw[decide_eq_true hc,cond_true]
      exact hih
     ·rw[if_neg (fun hh=>hh.2.elim hb (fun h3=>hc (by omega)))] at hih
      rw[decide_eq_false hc,cond_false]
      exact hih
  ·have e:i=ws.length:=by omega
   subst e
   rw[show decide ((ws.length:Int)<(ws.length:Int))=false by simp,cond_false]
include hs h hN in
theorem Qpw {L:List Int}(hp:L.Perm (ixs ws.length)) (hL:L.Pairwise (Qfq (rkey s.Mass ws.sum) ws)) (k:List Int→Option (List Qaa×Qdk)):∀(n j q:Nat) (o:List Int),j<n→q+j≤L.length→o.length=ws.length→(∀x∈o,0≤x∧x≤1000000+q) →
  Qcw N s ws ws.sum k n j o ((L.take q).foldl mark (List.replicate ws.length false))=k (((L.drop q).take j).foldl bump o):=by
 intro n
 induction n with
 |zero=>intro j q o h;cases h
 |succ n ih=>
  intro j q o hn hq ho hob
  have hlen:=hp.length_eq
  rw[Qee] at hlen
  have hl2:=h.l2
  rw[Qcw]
  cases j with
  |zero=>simp
  |succ j=>
   have hr:∀x∈L,0≤x∧x<ws.length:=fun x hx=>Qh2.1 (hp.mem_iff.1 hx)
   have hml:((L.take q).foldl mark (List.replicate ws.length false)).length=ws.length:=by rw[Qml];simp
   have hb:Qgc (rkey s.Mass ws.sum) ws ((L.take q).foldl mark (List.replicate ws.length false)) ws.length=L[q]'(by omega):=Qku hL (fun i hi=>hp.mem_iff.2 (Qh2.2 ⟨by omega,by omega⟩)) hr (fun i hi=>Qko hr i hi) (by omega)
   have hbl:=Qtg (N:=N) hs h _ hml
   simp only[Qcd,show decide (((j+1:Nat):Int)>0)=true from decide_eq_true (by omega),cond_true]
   have:=fun k=>hbl k N 0 (by omega) (Nat.zero_le _)
   rw[show Qgc (rkey s.Mass ws.sum) ws ((L.take q).foldl mark (List.replicate ws.length false)) 0=-1 from rfl] at this
   refine(this _).trans ?_
   rw[hb]
   obtain⟨x0,x1⟩:=hr (L[q]'(by omega)) (List.getElem_mem _)
   generalize hz:L[q]'(by omega)=z at x0 x1
   have c1:(decide (0≤z)&&decide (z.toNat<(ws.length:Int).toNat))=true:=by simp;omega
   have g1:∃b,((L.take q).foldl mark (List.replicate ws.length false))[z.toNat]? = some b:=⟨_,List.getElem?_eq_getElem (by omega)⟩
   obtain⟨b,g1⟩:=g1
   have g2:o[z.toNat]? = some (o.getD z.toNat 0):=by rw[List.getD_eq_getElem?_getD,List.getElem?_eq_getElem (by omega)];rfl
   have hxb:=hob _ (List.mem_of_getElem? g2)
   simp only[chk,c1,cond_true,g1,g2,Option.bind_some]
   rw[Qb6 (x:=((j+1:Nat):Int)-1) (by omega) (by omega),Qb6 (x:=o.getD z.toNat 0+1) (by omega) (by omega),show(((j+1:Nat):Int)-1)=(j:Int) by omega]
   have ht:mark ((L.take q).foldl mark (List.replicate ws.length false)) z=(L.take (q+1)).foldl mark (List.replicate ws.length false):=by
    rw[List.take_add_one,List.getElem?_eq_getElem (by omega),hz,List.foldl_append]
    rfl
   have hih:=ih j (q+1) (bump o z) (by omega) (by omega) (by rw[Qfc];exact ho) (fun y hy=>by
    rcases List.mem_or_eq_of_mem_set hy with hy |rfl
    ·have:=hob y hy;omega
    ·omega)
   rw[←ht] at hih
   refine hih.trans ?_
   rw[List.drop_eq_getElem_cons (show q<L.length by omega),hz,List.take_succ_cons,List.foldl_cons]
include hs in
theorem Qli {n m:Int}(hn:0≤n) (hn':n≤10000000000) (h0:0≤m) (h1:m≤s.Mass):Qep N n m s.Mass=some (n*m/mx s):=by
 have hM:=hs.m1
 have hM0:=hs.m0
 have hp:=bdp hn hn' h0 (show m≤1000000 by omega) (by omega)
 have hb:=Qj0 hM0 h0 h1 hn
 unfold Qep
 by_cases hz:s.Mass=0
 ·have hm:m=0:=by omega
  rw[hz,hm,Int.mul_zero,Int.zero_ediv];rfl
 ·have hx:mx s=s.Mass:=by unfold mx;split<;>omega
  rw[hx] at hb ⊢
  rw[show(s.Mass==0)=false by simpa using hz,cond_false,Qb6 (x:=n*m) (by omega) (by omega),Int.tdiv_eq_ediv_of_nonneg hp.1,Qb6 (by omega) (by omega)]
  rw[show(s.Mass != 0)=true by simpa using hz]
  rfl
include hs h in
theorem Qno (k:List Qaa×Int×Int×Int→Option (List Qaa×Qdk)) (l:List Int) (hl:l.length=ws.length) (hb:∀m∈l,0≤m∧m≤s.Mass):∀(n i:Nat) (acc:List Qaa) (a b c:Int),(l.drop i).length<n→acc.length=i →
  Qcx N s ws l k n acc i (w64 a) (w64 b) (w64 c)=k (acc++(l.drop i).map (Qix s),w64 (a-(totS ((l.drop i).map (Qix s))).Heat),w64 (b-(totS ((l.drop i).map (Qix s))).Silica),w64 (c-(totS ((l.drop i).map (Qix s))).Gas)):=by
 intro n
 induction n with
 |zero=>intro i _ _ _ _ h;cases h
 |succ n ih=>
  intro i acc a b c hn ha
  have hl2:=h.l2
  rw[Qcx]
  cases hd:l.drop i with
  |nil=>
   have:=Qec hd
   simp[show ¬((i:Int)<ws.length) from by omega,totS]
  |cons m q=>
   obtain⟨hg,hd',hlt⟩:=Qdu hd
   obtain⟨m0,m1⟩:=hb m (List.mem_of_getElem? hg)
   have a1:=hs.m1
   have c1:(decide ((0:Int)≤(i:Int))&&decide (i<ws.length))=true:=by simp;omega
   simp only[show decide ((i:Int)<ws.length)=true from by simp;omega,cond_true,chk,Int.toNat_natCast,c1,hg,Option.bind_some,Qli (N:=N) hs hs.h0 (by have:=hs.h1;omega) m0 m1,Qli (N:=N) hs hs.s0 (by have:=hs.s1;omega) m0 m1,Qli (N:=N) hs hs.g0 (by have:=hs.g1;omega) m0 m1,Ql8]
   have hc:decide ((acc.length+[(⟨m,s.Heat*m/mx s,s.Silica*m/mx s,s.Gas*m/mx s⟩:Qaa)].length)*32≤140737488355328)=true:=by simp;omega
   rw[hc,cond_true,w64S (i:=i) (by omega),
    ih (i+1) _ _ _ _ (by rw[hd'];rw[hd] at hn;simp at hn;omega) (by simp[ha]),hd',List.append_assoc,List.map_cons,Qmb]
   simp only[Qix,Int.sub_sub]
   rfl
include hs h hN in
theorem Qru:Qfl N s ws=some (Qgu s ws,Qnt s ws):=by
 have hl1:=h.l1
 have hl2:=h.l2
 have h0:=hs.m0
 have h1:=hs.m1
 obtain⟨L,hp,hL⟩:=Qjv h h0 h1
 have hlen:=hp.length_eq
 rw[Qee] at hlen
 have hb:=Qll h h0
 unfold Qfl
 simp only[Qcd]
 refine(Qnd h _ N 0 0 (by simp;omega) (by omega) (by omega)).trans ?_
 rw[List.drop_zero,Int.zero_add]
 simp only[chk]
 rw[show(decide ((0:Int)≤(ws.length:Int))&&decide (8*(ws.length:Int)≤281474976710656)&&decide ((ws.length:Int)≤9223372036854775807))=true from by simp;omega,cond_true,show(decide ((0:Int)≤(ws.length:Int))&&decide (1*(ws.length:Int)≤281474976710656)&&decide ((ws.length:Int)≤9223372036854775807))=true from by simp;omega]
 simp only[cond_true]
 have eo:=fun k=>Qp7 (N:=N) hs h k N 0 s.Mass (List.replicate (ws.length:Int).toNat 0) (by simp;omega) (by omega) (by simp) (by omega) h1
 simp only[List.take_zero,List.map_nil,List.nil_append,List.drop_zero] at eo
 refine(eo _).trans ?_
 dsimp only
 have hL2:s.Mass-(ws.map fun w=>s.Mass*w/ws.sum).sum=((Qg4 s.Mass ws).toNat:Int):=by
  have:s.Mass-(ws.map fun w=>s.Mass*w/ws.sum).sum=Qg4 s.Mass ws:=rfl
  omega
 rw[hL2]
 have hpk:=fun k=>Qpw (N:=N) hs h hN hp hL k N (Qg4 s.Mass ws).toNat 0 (Qg5 s.Mass ws) (by omega) (by omega) (Qe5 _ _) (fun x hx=>by have:=Qij h h0 x hx;omega)
 simp only[List.take_zero,List.foldl_nil,List.drop_zero] at hpk
 rw[show(ws.length:Int).toNat=ws.length by omega]
 refine(hpk _).trans ?_
 have hm:(L.take (Qg4 s.Mass ws).toNat).foldl bump (Qg5 s.Mass ws)=Qd4 s.Mass ws:=by
  rw[Qd4,Qgz h h0 hp hL]
 rw[hm]
 have hK:=Qhn hs h
 obtain⟨_,k1,k2,k3,k4,k5,k6,k7⟩:=hK
 have v:=Qk6 (Qhn hs h).v
 have:=v.h0
 have:=v.s0
 have:=v.g0
 have g1:=hs.h1
 have g2:=hs.s1
 have g3:=hs.g1
 have g4:=hs.h0
 have g5:=hs.s0
 have g6:=hs.g0
 have hpl:=fun k=>Qno (N:=N) hs h k (Qd4 s.Mass ws) (Qdy _ _) (Qiz h h0 h1) N 0 [] s.Heat s.Silica s.Gas (by rw[List.drop_zero,Qdy];omega) rfl
 rw[Qb6 (x:=s.Heat) (by omega) (by omega),Qb6 (x:=s.Silica) (by omega) (by omega),Qb6 (x:=s.Gas) (by omega) (by omega)] at hpl
 refine(hpl _).trans ?_
 rw[List.drop_zero,List.nil_append]
 have e:(Qd4 s.Mass ws).map (Qix s)=Qgu s ws:=rfl
 rw[e]
 unfold Qnt at *
 dsimp only at *
 rw[Qb6 (x:=s.Heat-_) (by omega) (by omega),Qb6 (x:=s.Silica-_) (by omega) (by omega),Qb6 (x:=s.Gas-_) (by omega) (by omega)]
end
end
section
theorem Qmc (N:Nat) (l:List Qaa) (k:List Qaa→Option (List Qaa)) (hl:l.length≤1000):∀(m i:Nat) (acc:List Qaa),(l.drop i).length<m→acc.length=i→Qcg N l k m acc i=k (acc++l.drop i):=by
 intro m
 induction m with
 |zero=>intro i _ h;cases h
 |succ m ih=>
  intro i acc h ha
  rw[Qcg]
  cases hd:l.drop i with
  |nil=>
   have:=Qec hd
   simp[show ¬((i:Int)<l.length) from by omega]
  |cons p q=>
   obtain⟨hg,hd',hlt⟩:=Qdu hd
   simp only[dlI hlt,cond_true,Qe4 hg,Qc3,Option.bind_some,chk]
   rw[show decide ((acc.length+[p].length)*32≤140737488355328)=true by simp;omega,cond_true,w64S (i:=i) (by omega),
    ih (i+1) _ (dlt hd hd' h) (by simp[ha]),hd',List.append_assoc]
   rfl
theorem Qps {N:Nat}{l:List Qaa}(hl:l.length≤1000) (hN:1001≤N):Qej N l=some l:=by
 unfold Qej
 simp only[Qcd]
 refine(Qmc N l _ hl N 0 [] (by simp;omega) rfl).trans ?_
 rw[List.drop_zero,List.nil_append]
theorem Qhh:Qdx 2000=some true:=by decide +kernel
theorem chkT {β:Type}{b:Bool}{k:Option β}(h:b=true):chk b k=k:=by subst h;rfl
theorem jkk {κ α β:Type}{k:κ→Option α}{f:(κ→Option α)→Option β}{r:Option β}(h:∀K:κ→Option α,(∀y,K y=k y)→f K=r):Qcd k f=r:=by
 rw[Qo2]
 exact h k fun _=>rfl
def mixA (l:List Qaa):Qaa×Int:=
 if l.length>40 then(⟨0,0,0,0⟩,3) else if l.all strB=false then(⟨0,0,0,0⟩,1) else if (totW l).Mass>1000000 then(⟨0,0,0,0⟩,3) else if (totW l).Gas>1000000000 then(⟨0,0,0,0⟩,3) else(totW l,0)
theorem Qxx {N:Nat}{l:List Qaa}(hl:l.length≤1000) (hN:1001≤N):Qch N l=some (l.all strB):=by
 have hc:Qax N l=some (l.any fun x=>!strB x):=by
  unfold Qax Qba Qcd
  refine Qfp (F:=Qan N l fun _=>some (-1)) (k:=fun _=>some (-1)) (q:=Qb7 N) (fun n y=>rfl) (fun x=>?_) rfl (by omega) (by omega)
  unfold Qb7
  rw[Qk5,Option.bind_some]
 unfold Qch
 rw[hc,Option.bind_some,Qog]
theorem Qyt {N:Nat}{l:List Qaa}(hl:l.length≤1000) (hN:1001≤N):Qgs N l=some (mixA l):=by
 unfold Qgs Qef mixA
 rw[Qxx hl hN]
 by_cases h1:l.length>40
 ·rw[if_pos h1,decide_eq_true (show(l.length:Int)>40 by omega)]
  rfl
 rw[if_neg h1,decide_eq_false (show ¬(l.length:Int)>40 by omega)]
 cases hv:l.all strB with
 |false=>rfl
 |true=>
  rw[cond_false,Option.bind_some,show(!true)=false from rfl,cond_false,Option.bind_some,show((0:Int) != 0)=false from rfl,cond_false,Qrq hl hN,Option.bind_some,if_neg (by decide)]
  by_cases h2:(totW l).Mass>1000000
  ·rw[if_pos h2,decide_eq_true h2,cond_true]
  rw[if_neg h2,decide_eq_false h2,cond_false]
  by_cases h3:(totW l).Gas>1000000000
  ·rw[if_pos h3,decide_eq_true h3,cond_true]
  rw[if_neg h3,decide_eq_false h3,cond_false]
theorem Qxy {N:Nat}{ws:List Int}(hl:ws.length≤1000) (hN:1001≤N):Qc7 N ws=some (ws.all fun x=>btw x 0 1000):=by
 have hc:Qa8 N ws=some (ws.any fun x=>!btw x 0 1000):=by
  unfold Qa8 Qca Qcd
  refine Qfp (F:=Qa3 N ws fun _=>some (-1)) (k:=fun _=>some (-1)) (q:=Qcq N) (fun n y=>rfl) (fun x=>?_) rfl (by omega) (by omega)
  simp only[Qcq,Qeh,Qip,Option.bind_some]
 unfold Qc7
 rw[hc,Option.bind_some,Qog]
theorem Qxv {N:Nat}{ws:List Int}(hl:ws.length≤1000) (hN:1001≤N):Qa0 N ws=some (ws.any fun x=>decide (x>0)):=by
 unfold Qa0 Qb9 Qcd
 exact Qfp (F:=Qa2 N ws fun _=>some (-1)) (k:=fun _=>some (-1)) (q:=Qeg N) (fun n y=>rfl) (fun x=>rfl) rfl (by omega) (by omega)
theorem Qrv {N:Nat}{s:Qaa}{ws:List Int}(hl:ws.length≤1000) (hN:1001≤N) (h:(strB s&&wtsB ws)=false):Qdm N s ws=some ([],⟨0,0,0⟩,1):=by
 unfold Qdm
 refine jkk fun K _=>?_
 rw[Qk5,Option.bind_some]
 cases hs:strB s with
 |false=>rfl
 |true=>
  rw[show(!true)=false from rfl,cond_false,Qxy hl hN,Qxv hl hN]
  rw[hs,Bool.true_and] at h
  by_cases h1:(ws.length:Int)>20
  ·rw[decide_eq_true h1];rfl
  rw[decide_eq_false h1,cond_false,Option.bind_some]
  cases ha:ws.all fun x=>btw x 0 1000 with
  |false=>rfl
  |true=>
   rw[show(!true)=false from rfl,cond_false,Option.bind_some]
   cases hb:ws.any fun x=>decide (x>0) with
   |false=>rfl
   |true=>
    exfalso
    unfold wtsB at h
    rw[ha,hb,Bool.and_true,Bool.and_true] at h
    have h2:¬btw ws.length 1 20=true:=by rw[h];decide
    rw[Qh3] at h2
    cases ws with
    |nil=>simp at hb
    |cons x l=>simp only[List.length_cons] at h1 h2;omega
theorem Qrx (N:Nat) (l:List Qaa) (k:Unit→Option Bool) (hl:l.length≤1000):∀(n i:Nat),l.length-i<n→i≤l.length→Qc1 N l l k n i=k ():=by
 intro n
 induction n with
 |zero=>intro i h _;omega
 |succ n ih=>
  intro i h hi
  rw[Qc1]
  by_cases hlt:i<l.length
  ·rw[decide_eq_true (show(i:Int)<l.length by omega),cond_true,Qe4 (List.getElem?_eq_getElem hlt),Option.bind_some,Option.bind_some,show ∀x,Qc3 N x=some x from fun _=>rfl,Option.bind_some,beq_self_eq_true,show(!true)=false from rfl,cond_false,
    w64S (i:=i) (by omega),ih (i+1) (by omega) (by omega)]
  ·rw[decide_eq_false (show ¬(i:Int)<l.length by omega),cond_false]
theorem Qwg {N:Nat}{l:List Qaa}(hl:l.length≤1000) (hN:1001≤N):Qf5 N l l=some true:=by
 unfold Qf5
 rw[show((l.length:Int) != (l.length:Int))=false from by simp,cond_false,Qo2]
 exact Qrx N l _ hl N 0 (by omega) (Nat.zero_le _)
theorem Qsc (l:List Qaa) (s:Qaa) (w:List Int) (_:Qj5 l) (_:Qi2 s) (_:Qsp w):Qeb 2000 l s w=some true:=by
 unfold Qeb
 refine jkk fun K1 hK1=>?_
 by_cases h1:(l.length:Int)>45
 ·rw[decide_eq_true h1,cond_true,Qhh,Option.bind_some]
 rw[decide_eq_false h1,cond_false]
 by_cases h2:(w.length:Int)>25
 ·rw[decide_eq_true h2,cond_true,Qhh,Option.bind_some]
 rw[decide_eq_false h2,cond_false,hK1,Qps (by omega) (by decide),Option.bind_some,Qyt (by omega) (by decide),Option.bind_some,show Qc3 2000 s=some s from rfl,Option.bind_some,chkT (decide_eq_true (by omega))]
 have hw:w.length≤1000:=by omega
 have hl:l.length≤1000:=by omega
 obtain⟨x,hx,hx1,hx0⟩:∃x,Qdm 2000 s w=some x∧((strB s&&wtsB w)=true→x=(Qgu s w,Qnt s w,0))∧((strB s&&wtsB w)=false→x=([],⟨0,0,0⟩,1)):=by
  cases h:strB s&&wtsB w with
  |false=>exact⟨_,Qrv hw (by decide) h,fun h=>by simp at h,fun _=>rfl⟩
  |true=>
   rw[Bool.and_eq_true] at h
   exact⟨_,Qum (Qk7.1 h.1) (Qrl h.2) (by decide),fun _=>rfl,fun h=>by simp at h⟩
 rw[hx,Option.bind_some]
 refine jkk fun K12 hK12=>?_
 refine Eq.trans (b:=K12 (mixA l).2) ?_ ?_
 ·rw[Quh hl (by decide),Qro hl (by decide)]
  unfold mixA
  by_cases h3:l.length>40
  ·rw[if_pos h3,decide_eq_true (show(l.length:Int)>40 by omega),cond_true]
  rw[if_neg h3,decide_eq_false (show ¬(l.length:Int)>40 by omega),cond_false,Option.bind_some]
  cases hv:l.all strB with
  |false=>rfl
  |true=>
   rw[show(!true)=false from rfl,cond_false,Option.bind_some,Option.bind_some,if_neg (by decide)]
   by_cases h4:(totW l).Mass>1000000
   ·rw[if_pos h4,decide_eq_true h4,cond_true]
   rw[if_neg h4,decide_eq_false h4,cond_false]
   by_cases h5:(totW l).Gas>1000000000
   ·rw[if_pos h5,decide_eq_true h5,cond_true]
   rw[if_neg h5,decide_eq_false h5,cond_false]
 rw[hK12]
 refine jkk fun K13 hK13=>?_
 have hk:K13 ()=some true:=by
  rw[hK13]
  refine jkk fun K14 hK14=>?_
  rw[Qmd,Option.bind_some,Qr0 hw (by decide),Option.bind_some]
  cases hs:strB s with
  |false=>
   rw[hx0 (by rw[hs];rfl),Qhh]
   rfl
  |true=>
   cases hb:wtsB w with
   |false=>
    rw[hx0 (by rw[hb,Bool.and_false]),Qhh]
    rfl
   |true=>
    rw[show(!true)=false from rfl,cond_false,cond_false,hK14,hx1 (by rw[hs,hb];rfl),Qru (Qk7.1 hs) (Qrl hb) (by decide),Option.bind_some]
    rw[show((0:Int)==0)=true from rfl,cond_true,Qwg (by unfold Qgu;rw[List.length_map,Qdy];exact hw) (by decide),Option.bind_some,cond_true,beq_self_eq_true,cond_true,Qhh,Option.bind_some]
 rw[Qro hl (by decide),hk]
 unfold mixA
 by_cases h3:l.length>40
 ·rw[if_pos h3];rfl
 rw[if_neg h3]
 cases hv:l.all strB with
 |false=>rfl
 |true=>
  rw[if_neg (by decide)]
  by_cases h4:(totW l).Mass>1000000
  ·rw[if_pos h4];rfl
  rw[if_neg h4]
  by_cases h5:(totW l).Gas>1000000000
  ·rw[if_pos h5];rfl
  rw[if_neg h5]
  rw[show((0:Int)==0)=true from rfl,cond_true,show((0:Int) != 0)=false from rfl,cond_false,Option.bind_some,show Qc3 2000 (totW l)=some (totW l) from rfl,Option.bind_some,beq_self_eq_true,show(!true)=false from rfl,cond_false,cond_false]
end
end Go.Proofs.Ytcoojdacfknboaa
