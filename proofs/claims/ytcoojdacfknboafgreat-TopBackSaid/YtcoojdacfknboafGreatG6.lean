/-
  The texts PE6, PSa6, PSb6, PSc6, PTa6, PTb6, PTc6, PKo6, PIa, PJb, PJc, PJd, PIs, PIy, PIe, PJf, PIg, PJh, PIi, PJj, PJk, PJl of the proof, one behind the other. No conditions.
-/
import Derived.Test.YtcoojdacfknboafGreatG5
namespace Go.Proofs.YtcoojdacfknboafGreat
open _root_.Go.Proofs.Tryz
open Go.RowKit
set_option linter.defProp false
set_option linter.unusedVariables false
set_option linter.unusedSimpArgs false
section
structure NetV (n:GNet):Prop where
 tab:tabB n.Table=true
 len:1<=n.Elements.length/\n.Elements.length<=16
 alone:∀x∈n.Elements,Qpv x=true
 level:∀x∈n.Elements,0<=x.Level/\x.Level<=(n.Table.length:Int)-1
 port:∀(i:Nat) x p,n.Elements[i]? = some x->p∈x.From->0<=p.Element/\p.Element<i/\∃y,n.Elements[p.Element.toNat]? = some y/\0<=p.Outlet/\p.Outlet<outl y/\x.Level<=y.Level
 dist:(n.Elements.flatMap fun x=>x.From.map pq).Nodup
theorem Qyk {els:List Qam}{i:Nat}{lv:Int}:∀{l:List Qhm}{u:List (Int×Int)},Qrt els i lv u l=true->u.Nodup ->
  (u++l.map pq).Nodup/\∀p∈l,0<=p.Element/\p.Element<i/\∃y,els[p.Element.toNat]? = some y/\0<=p.Outlet/\p.Outlet<outl y/\lv<=y.Level
 |[],u,_,hu=>⟨by simpa using hu,by simp⟩
 |p::l,u,h,hu=>by
  rw[Qrt,Xaq] at h
  obtain⟨h1,h2⟩:=h
  rw[Zhd,Xaq,Xaq] at h1
  obtain⟨⟨h3,h4⟩,h5⟩:=h1
  have hn:pq p∉u:=by simpa using h5
  have hu':(u++[pq p]).Nodup:=by
   rw[Xet]
   exact⟨hu,by simp,fun a ha b hb=>by simp at hb;subst hb;exact fun e=>hn (e▸ha)⟩
  obtain⟨k1,k2⟩:=Qyk h2 hu'
  refine⟨by rw[Xax];rw[Xan] at k1;exact k1,fun q hq=>?_⟩
  rcases Xa7.1 hq with rfl |hq
  ·obtain⟨b1,b2⟩:=Qeb.1 h3
   cases hg:getI els q.Element with
   |none=>rw[hg] at h4;cases h4
   |some y=>
    rw[hg] at h4
    simp only[Xaq,Xbw] at h4
    obtain⟨c1,c2⟩:=Qeb.1 h4.1
    exact⟨b1,by omega,y,(Q5z hg).2,c1,by omega,h4.2⟩
  exact k2 q hq
theorem Q58 {t:Int}{els:List Qam}:∀{l:List Qam}{i:Nat}{u:List (Int×Int)},Q59 t els i u l=true->u.Nodup ->
  (u++l.flatMap fun x=>x.From.map pq).Nodup/\(∀x∈l,0<=x.Level/\x.Level<=t-1)/\∀(j:Nat) x p,l[j]? = some x->p∈x.From->0<=p.Element/\p.Element<(i:Int)+j/\∃y,els[p.Element.toNat]? = some y/\0<=p.Outlet/\p.Outlet<outl y/\x.Level<=y.Level
 |[],i,u,_,hu=>⟨by simpa using hu,by simp,fun j x p h=>by simp at h⟩
 |x::l,i,u,h,hu=>by
  rw[Q59,Xaq,Xaq] at h
  obtain⟨⟨h1,h2⟩,h3⟩:=h
  obtain⟨k1,k2⟩:=Qyk h2 hu
  obtain⟨m1,m2,m3⟩:=Q58 h3 k1
  refine⟨by rw[Xgl];rw[Xan] at m1;exact m1,fun y hy=>?_,fun j y p hj hp=>?_⟩
  ·rcases Xa7.1 hy with rfl |hy
   ·exact Qeb.1 h1
   exact m2 y hy
  cases j with
  |zero=>
   simp at hj
   subst hj
   obtain⟨a,b,c⟩:=k2 p hp
   exact⟨a,by omega,c⟩
  |succ j=>
   obtain⟨a,b,c⟩:=m3 j y p (by simpa using hj) hp
   exact⟨a,by omega,c⟩
theorem Zrw {n:GNet}(h:netB n=true):NetV n:=by
 unfold netB at h
 simp only[Xaq] at h
 obtain⟨⟨⟨h1,h2⟩,h3⟩,h4⟩:=h
 obtain⟨k1,k2,k3⟩:=Q58 h4 Xfg
 have:=Qeb.1 h2
 exact⟨h1,⟨by omega,by omega⟩,fun x hx=>Xa6.1 h3 x hx,k2,fun i x p hi hp=>by
  obtain⟨a,b,c⟩:=k3 i x p hi hp
  exact⟨a,by omega,c⟩,by simpa using k1⟩
def Qq9:Nat->List Qam->List Qhm
 |_,[]=>[]
 |i,x::l=>(List.range (outl x).toNat).map (fun k:Nat=>(⟨(i:Int),(k:Int)⟩:Qhm))++Qq9 (i+1) l
def Q7w (n:GNet):List (Int×Int):=n.Elements.flatMap fun x=>x.From.map pq
def Q3k (n:GNet):List Qhm:=(Qq9 0 n.Elements).filter fun p=>!(Q7w n).contains (pq p)
section
variable {N : Nat} {n : GNet} (hs : Qth n) (hv : NetV n) (hN : 1001 <= N)
theorem Zcr (x:Qam) (hx:x.From.length<=1000) (k:List (Int×Int)->Option (List (Int×Int))):∀(m j:Nat) (u:List (Int×Int)),(x.From.drop j).length<m->(u++(x.From.drop j).map pq).Nodup ->
  Qfg N k x m j u=k (u++(x.From.drop j).map pq):=by
 intro m
 induction m with
 |zero=>intro j _ h;cases h
 |succ m ih=>
  intro j u h hu
  rw[Qfg]
  cases hd:x.From.drop j with
  |nil=>
   have:=Qca hd
   simp[show ¬((j:Int)<x.From.length) from by omega]
  |cons p l=>
   obtain⟨hg,hd',hlt⟩:=Qbn hd
   rw[hd] at hu
   have hn:u.contains (p.Element,p.Outlet)=false:=by
    rw[<-Bool.not_eq_true,Xgx]
    intro hm
    rw[Xet] at hu
    exact hu.2.2 _ hm (pq p) (by simp) rfl
   have ea:addQ u (p.Element,p.Outlet)=u++[pq p]:=by
    unfold addQ
    rw[hn];rfl
   simp only[dlI hlt,Xak,Qb8 hg,Xaa,ea]
   rw[w64S (i:=j) (by omega),ih (j+1) _ (dlt hd hd' h) (by rw[hd',Xan];exact hu),hd',Xan]
   rfl
include hs hN in
theorem Zgm (k:List (Int×Int)->Option (List (Int×Int))):∀(m i:Nat) (u:List (Int×Int)),(n.Elements.drop i).length<m->(u++(n.Elements.drop i).flatMap fun x=>x.From.map pq).Nodup ->
  Qfh N n k m i u=k (u++(n.Elements.drop i).flatMap fun x=>x.From.map pq):=by
 intro m
 induction m with
 |zero=>intro i _ h;cases h
 |succ m ih=>
  intro i u h hu
  rw[Qfh]
  cases hd:n.Elements.drop i with
  |nil=>
   have:=Qca hd
   simp[show ¬((i:Int)<n.Elements.length) from by omega]
  |cons x l=>
   obtain⟨hg,hd',hlt⟩:=Qbn hd
   have e0:=hs.e
   have hx:=hs.x x (Xac hg)
   rw[hd,Xgl,<-Xan] at hu
   simp only[dlI hlt,Xak,Qb0,Qb8 hg,Xaa]
   refine(Zcr x (by omega) _ N 0 u (by simp;omega) (by rw[Xap];exact(Xet.1 hu).1)).trans ?_
   rw[Xap,w64S (i:=i) (by omega),ih (i+1) _ (dlt hd hd' h) (by rw[hd'];exact hu),hd',Xgl,Xan]
include hs hv hN in
theorem Zqy:Qka N n=some (Q7w n):=by
 have e0:=hs.e
 unfold Qka
 simp only[Qb0]
 refine(Zgm hs hN _ N 0 [] (by simp;omega) (by rw[Xap];exact hv.dist)).trans ?_
 rw[Xap,Xa9]
 rfl
theorem Zdi (i:Nat) (u:List (Int×Int)) (o:Nat) (ho:o<=1000) (r:List Qhm) (k:Unit->Option (List Qhm)) (hk:k ()=some r):∀(m j:Nat),o-j<m->j<=o ->
  Qeo N i u k o m j=some ((((List.range' j (o-j)).map (fun k:Nat=>(⟨(i:Int),(k:Int)⟩:Qhm))).filter fun p=>!u.contains (pq p))++r):=by
 intro m
 induction m with
 |zero=>intro j h;cases h
 |succ m ih=>
  intro j h hj
  rw[Qeo]
  by_cases hlt:j<o
  ·rw[show decide ((j:Int)<(o:Int))=true by simpa using hlt,Xak,w64S (i:=j) (by omega),ih (j+1) (by omega) (by omega),show o-j=(o-(j+1))+1 by omega,Xd1,Xax,Xfn]
   cases hu:u.contains (pq ⟨(i:Int),(j:Int)⟩) with
   |true=>
    rw[show u.contains ((i:Int),(j:Int))=true from hu]
    simp
   |false=>
    rw[show u.contains ((i:Int),(j:Int))=false from hu]
    simp[yld]
  rw[show decide ((j:Int)<(o:Int))=false by simpa using hlt,Xai,hk,show o-j=0 by omega]
  rfl
include hs hN in
theorem Zje (u:List (Int×Int)):∀(m i:Nat),(n.Elements.drop i).length<m ->
  Qep N n.Elements u m i=some ((Qq9 i (n.Elements.drop i)).filter fun p=>!u.contains (pq p)):=by
 intro m
 induction m with
 |zero=>intro i h;cases h
 |succ m ih=>
  intro i h
  rw[Qep]
  cases hd:n.Elements.drop i with
  |nil=>
   have:=Qca hd
   simp[show ¬((i:Int)<n.Elements.length) from by omega,Qq9]
  |cons x l=>
   obtain⟨hg,hd',hlt⟩:=Qbn hd
   have e0:=hs.e
   obtain⟨o0,o1⟩:=Q8b (hs.x x (Xac hg)).2
   simp only[dlI hlt,Xak,Qb0,Qb8 hg,Xaa,Zhh]
   have h1:=ih (i+1) (dlt hd hd' h)
   rw[w64S (i:=i) (by omega)]
   have h2:=Zdi (N:=N) i u (outl x).toNat (by omega) _ (fun _=>Qep N n.Elements u m ((i+1:Nat):Int)) h1 N 0 (by omega) (Xbg _)
   rw[show(((outl x).toNat:Nat):Int)=outl x by omega] at h2
   refine h2.trans ?_
   rw[hd',Qq9,Xe9,Xga,Xfp]
theorem Q0w:∀(l:List Qam) (i:Nat),(∀x∈l,x.Weights.length<=25)->(Qq9 i l).length<=25*l.length
 |[],_,_=>by simp[Qq9]
 |x::l,i,h=>by
  have:=Q0w l (i+1) fun y hy=>h y (Xal _ hy)
  have:=Q8b (h x Xb9)
  simp only[Qq9,Xb1,Xb3,Xeu,Xa5]
  omega
end
def stB (n:GNet) (s:List Int):Bool:=decide (s.length=n.Elements.length)&&s.all fun x=>btw x 0 1000000000000
theorem Zgw {N:Nat}{n:GNet}(hs:Qth n) (hN:1001<=N) {s:List Int}(hl:s.length<=1000):Qnu N n s=some (bif netB n&&stB n s then 0 else 1):=by
 have hc:Qe1 N s=some (s.any fun x=>!btw x 0 1000000000000):=by
  unfold Qe1 Qgq Qb0
  refine Ql2 (F:=Qdl N s fun _=>some (-1)) (k:=fun _=>some (-1)) (q:=Qjs N) (fun n y=>rfl) (fun x=>?_) rfl (by omega) (by omega)
  simp only[Qjs,Qna,Qoe,Xaa]
 unfold Qnu Qmg stB
 rw[Zrx hs hN,hc]
 simp only[Xaa,Qz0]
 cases netB n with
 |false=>rfl
 |true=>
  by_cases h1:s.length=n.Elements.length
  ·rw[Xae h1,show((s.length:Int) != (n.Elements.length:Int))=false by rw[bne_eq_false_iff_eq];omega]
   cases s.all fun x=>btw x 0 1000000000000<;>rfl
  rw[Xah h1,show((s.length:Int) != (n.Elements.length:Int))=true by rw[Xeb];omega];rfl
def widI (x:Qam) (d:Int):Int:=if x.Wide-d/x.Narrow>0 then x.Wide-d/x.Narrow else 0
theorem Zvk {x:Qam}(hx:Qpv x=true) {d:Int}(h0:0<=d) (h1:d<=9000000000000000000):(x.Narrow != 0)=true/\d.tdiv x.Narrow=d/x.Narrow/\0<=d/x.Narrow/\d/x.Narrow<=d/\w64 (d/x.Narrow)=d/x.Narrow/\w64 (x.Wide-d/x.Narrow)=x.Wide-d/x.Narrow/\0<=x.Wide/\x.Wide<=1000000/\1<=x.Narrow:=by
 unfold Qpv at hx
 simp only[Xaq] at hx
 obtain⟨⟨⟨⟨⟨_,hw⟩,hn⟩,_⟩,_⟩,_⟩:=hx
 obtain⟨w0,w1⟩:=Qeb.1 hw
 obtain⟨n0,n1⟩:=Qeb.1 hn
 have a:=Xf0 h0 (show 0<=x.Narrow by omega)
 have b:=Int.ediv_le_self x.Narrow h0
 exact⟨by rw[Xeb];omega,Xex h0,a,b,Qa1,Qa1,w0,w1,n0⟩
theorem Zgk (N:Nat) {x:Qam}(hx:Qpv x=true) {d:Int}(h0:0<=d) (h1:d<=9000000000000000000):Qin N x d=some (widI x d):=by
 obtain⟨a,b,c,e,f,g,_⟩:=Zvk hx h0 h1
 unfold Qin widI
 rw[a,b,f,g]
 rfl
end
section
def Qn7 (key:Int->Int) (ls:List Int) (i k:Int):Prop:=key (ls.getD k.toNat 0)<key (ls.getD i.toNat 0)\/(key (ls.getD k.toNat 0)=key (ls.getD i.toNat 0)/\i<k)
theorem Qtf {key:Int->Int}{ls:List Int}{i k:Int}(h:Qn7 key ls i k) (h':Qn7 key ls k i):False:=by
 unfold Qn7 at h h'
 omega
theorem Q9f {key:Int->Int}{ls:List Int}{i k m:Int}(h:Qn7 key ls i k) (h':Qn7 key ls k m):Qn7 key ls i m:=by
 unfold Qn7 at *
 omega
def ixs (n:Nat):List Int:=(List.range n).map fun j:Nat=>(j:Int)
theorem Qmo (n:Nat):(ixs n).length=n:=by simp[ixs]
theorem Q28 {n i:Nat}(h:i<n):(ixs n)[i]? = some (i:Int):=by simp[ixs,h]
theorem Qy1 {n:Nat}{x:Int}:x∈ixs n↔0<=x/\x<n:=by
 unfold ixs
 rw[Xba]
 constructor
 ·rintro ⟨j,hj,rfl⟩
  have:=Xd7.1 hj
  omega
 rintro ⟨h0,h1⟩
 exact⟨x.toNat,Xd7.2 (by omega),by omega⟩
theorem Zie (n:Nat):(ixs n).Nodup:=List.pairwise_map.2 ((List.nodup_range (n:=n)).imp fun h e=>h (by omega))
section
variable {N L : Nat} {ws : List Int} {M W : Int}
def rkey (M W w:Int):Int:=M*w % W
structure WOk (ws:List Int) (M W:Int):Prop where
 w:∀x∈ws,0<=x/\x<=1000
 m0:0<=M
 m1:M<=1000000
 p0:0<W
 p1:W<=20000
theorem Zg6 (h:WOk ws M W) (x:Int):0<=rkey M W x/\rkey M W x<20000:=by
 have:=h.p0
 have:=h.p1
 have a:=Int.emod_nonneg (M*x) (show W≠0 by omega)
 have b:=Int.emod_lt_of_pos (M*x) h.p0
 unfold rkey
 omega
theorem Zbe (h:WOk ws M W) {x:Int}(hx:x∈ws):Qic N x M W=some (rkey M W x):=by
 obtain⟨x0,x1⟩:=h.w x hx
 have h0:=h.m0
 have h1:=h.m1
 have p:=h.p0
 have:=bdp h0 h1 x0 x1 (by omega)
 unfold Qic chk rkey
 rw[show(W != 0)=true by rw[Xeb];omega,Xak,Qa1,Int.tmod_eq_emod_of_nonneg this.1]
theorem Zwt (h:WOk ws M W) {a b:Int}(ha:0<=a/\a<ws.length) (hb:0<=b/\b<ws.length):Qhg N a b ws M W=some (rkey M W (ws.getD b.toNat 0)-rkey M W (ws.getD a.toNat 0)):=by
 have ga:ws[a.toNat]? = some (ws.getD a.toNat 0):=by rw[Xaj,Xab (by omega)];rfl
 have gb:ws[b.toNat]? = some (ws.getD b.toNat 0):=by rw[Xaj,Xab (by omega)];rfl
 have ka:=Zg6 h (ws.getD a.toNat 0)
 have kb:=Zg6 h (ws.getD b.toNat 0)
 unfold Qhg
 rw[show getI ws b=some (ws.getD b.toNat 0) from by rw[<-gb];unfold getI;rw[Xaz hb.1],show getI ws a=some (ws.getD a.toNat 0) from by rw[<-ga];unfold getI;rw[Xaz ha.1]]
 simp only[Xaa,Zbe h (Xac ga),Zbe h (Xac gb)]
 rw[Qa1]
theorem Zr4 (h:WOk ws M W) (hL:L<=20) (hLw:L=ws.length) (k:List Int->Option (List Int)) (x:Int) (R:List Int) (hx:0<=x/\x<ws.length):∀(n:Nat) (P S:List Int),P.length<n->(P++x::S++R).length=L ->
  (P++S).Pairwise (Qn7 (rkey M W) ws)->(∀s∈S,Qn7 (rkey M W) ws x s)->(∀y∈P++S,0<=y/\y<x) ->
  ∃Q,Qb9 N L 0 ws M W k n P.length (P++x::S++R)=k (Q++R)/\Q.Perm (P++x::S)/\Q.Pairwise (Qn7 (rkey M W) ws):=by
 intro n
 induction n with
 |zero=>intro P S hn;exact absurd hn (Xcl _)
 |succ n ih=>
  intro P S hn hl hp hs hb
  rw[Qb9]
  simp only[Qb0]
  rcases Xfi P with rfl |⟨P',y,rfl⟩
  ·refine⟨x::S,by simp,.refl _,?_⟩
   rw[Xc2]
   exact⟨hs,by simpa using hp⟩
  simp only[Xfj] at *
  have hlen:(P'++[y]).length=P'.length+1:=by simp
  have hl2:P'.length+1<L:=by rw[<-hl];simp
  have e1:w64 (((P'++[y]).length:Nat)-1:Int)=(P'.length:Int):=by rw[hlen,Qa1];omega
  have e2:(((P'++[y]).length:Nat):Int).toNat=P'.length+1:=by rw[hlen];omega
  have e3:(P'.length:Int).toNat=P'.length:=by omega
  have gx:(P'++[y]++x::S++R)[P'.length+1]? = some x:=by
   rw[Xan,Xan,Xam (by omega)]
   simp
  have gy:(P'++[y]++x::S++R)[P'.length]? = some y:=by
   rw[Xan,Xan,Xam (by omega)]
   simp
  have hy:=hb y (by simp)
  have c1:(decide ((0:Int)<=(((P'++[y]).length:Nat):Int))&&decide (P'.length+1<L))=true:=by simp;omega
  have c2:(decide ((0:Int)<=(P'.length:Int))&&decide (P'.length<L))=true:=by simp;omega
  have hs1:((P'++[y]++x::S++R).set (P'.length+1) y)[P'.length]? = some y:=by rw[Xci (by omega)];exact gy
  have hsw:((P'++[y]++x::S++R).set (P'.length+1) y).set P'.length x=P'++x::(y::S)++R:=by
   have a1:(P'++[y]++x::S++R).set (P'.length+1) y=P'++[y]++y::S++R:=by
    rw[Xan,Xan,Xdg _ _ (by omega),show P'.length+1-P'.length=1 by omega]
    simp
   rw[a1,Xan,Xan,Xdg _ _ (by omega),Xd3]
   simp
  have hcmp:=Zwt (N:=N) h hx (show 0<=y/\y<ws.length by omega)
  simp only[show decide ((((P'++[y]).length:Nat):Int)>0)=true from Xae (by rw[hlen];omega),Xak,e1,e2,e3,chk,c1,c2,gx,gy,Xaa,hcmp,hs1,hsw]
  by_cases hlt:rkey M W (ws.getD y.toNat 0)-rkey M W (ws.getD x.toNat 0)<0
  ·rw[Xae hlt,Xak]
   obtain⟨Q,q1,q2,q3⟩:=ih P' (y::S) (by rw[hlen] at hn;omega) (by rw[<-hl];simp) (by simpa using hp) (fun s hs'=>by
    rcases Xa7.1 hs' with rfl |hs'
    ·exact .inl (by omega)
    exact hs s hs') (fun z hz=>hb z (by simpa using hz))
   refine⟨Q,q1,q2.trans ?_,q3⟩
   rw[Xan]
   exact List.Perm.append_left P' (List.Perm.swap y x S)
  rw[Xah hlt,Xai]
  refine⟨P'++[y]++x::S,rfl,.refl _,?_⟩
  have hyx:Qn7 (rkey M W) ws y x:=by unfold Qn7;omega
  rw[Xco] at hp ⊢
  obtain⟨p1,p2,p3⟩:=hp
  refine⟨p1,Xc2.2 ⟨hs,p2⟩,fun a ha b hb'=>?_⟩
  have hax:Qn7 (rkey M W) ws a x:=by
   rcases Xby.1 ha with ha |ha
   ·rw[Xco] at p1
    exact Q9f (p1.2.2 a ha y (by simp)) hyx
   simp at ha;subst ha;exact hyx
  rcases Xa7.1 hb' with rfl |hb'
  ·exact hax
  exact p3 a ha b hb'
theorem Zl8 (h:WOk ws M W) (hL:L<=20) (hLw:L=ws.length) (hN:1000<=N):∀(n i:Nat) (Q:List Int),L-i<n->i<=L->Q.Perm ((ixs L).take i)->Q.Pairwise (Qn7 (rkey M W) ws) ->
  ∃Q',Qbd N L 0 L ws M W n i (Q++(ixs L).drop i)=some Q'/\Q'.Perm (ixs L)/\Q'.Pairwise (Qn7 (rkey M W) ws):=by
 intro n
 induction n with
 |zero=>intro i _ h;cases h
 |succ n ih=>
  intro i Q hn hi hp hq
  rw[Qbd]
  simp only[Qb0]
  by_cases hlt:i<L
  ·have hql:Q.length=i:=by rw[hp.length_eq,Xdk,Qmo];omega
   have hd:(ixs L).drop i=(i:Int)::(ixs L).drop (i+1):=by
    have:=Q28 hlt
    have hi2:i<(ixs L).length:=by rw[Qmo];exact hlt
    rw[Xbe hi2]
    rw[Xab hi2] at this
    rw[Xfv this]
   rw[show decide ((i:Int)<(L:Int))=true from by simpa using hlt,Xak]
   have hmem:∀y∈Q,0<=y/\y<(i:Int):=fun y hy=>by
    have h1:=hp.mem_iff.1 hy
    obtain⟨j,hj,e⟩:=Xey.1 h1
    have hj2:j<L:=by rw[Qmo] at hj;omega
    have:=Q28 hj2
    rw[Xab (by rw[Qmo];exact hj2),e] at this
    cases this
    omega
   obtain⟨Q',q1,q2,q3⟩:=Zr4 (N:=N) h hL hLw (fun y8=>Qbd N L 0 L ws M W n (w64 ((i:Int)+1)) y8) (i:Int) ((ixs L).drop (i+1)) (by omega) N Q [] (by omega) (by simp[Qmo,hql];omega) (by simpa using hq) (by simp) (by simpa using hmem)
   rw[hql] at q1
   rw[hd]
   have e:Q++(i:Int)::(ixs L).drop (i+1)=Q++[(i:Int)]++(ixs L).drop (i+1):=by simp
   rw[e]
   have t:(ixs L).take (i+1)=(ixs L).take i++[(i:Int)]:=by
    rw[Xfe,Q28 hlt];rfl
   obtain⟨Q2,r1,r2,r3⟩:=ih (i+1) Q' (by omega) (by omega) (q2.trans (by rw[t];exact hp.append_right _)) q3
   refine⟨Q2,q1.trans ?_,r2,r3⟩
   rw[w64S (i:=i) (by omega)]
   exact r1
  rw[show decide ((i:Int)<(L:Int))=false from by simpa using hlt,Xai]
  have hiL:i=L:=by omega
  subst hiL
  rw[Xcb (by rw[Qmo];exact Xay _)] at hp
  exact⟨Q,by rw[Xcp (by rw[Qmo];exact Xay _),Xbn],hp,hq⟩
theorem Zlu (h:WOk ws M W) (hL:ws.length<=20) (h1:1<=ws.length) (hN:1000<=N):∃Q,Qdw N ws.length (ixs ws.length) ws M W=some Q/\Q.Perm (ixs ws.length)/\Q.Pairwise (Qn7 (rkey M W) ws):=by
 have ht:(ixs ws.length).take 1=[0]:=by
  rw[Xfe,Q28 (by omega)];rfl
 have hd:(ixs ws.length)=[0]++(ixs ws.length).drop 1:=by rw[<-ht,Xcf]
 obtain⟨Q,q1,q2,q3⟩:=Zl8 (N:=N) (L:=ws.length) h hL rfl hN N 1 [0] (by omega) h1 (by rw[ht]) (by simp)
 rw[<-hd] at q1
 refine⟨Q,?_,q2,q3⟩
 obtain⟨m,rfl⟩:∃m,N=m+2:=⟨N-2,by omega⟩
 have hins:Qch (m+2) ws.length 0 (ws.length:Int) (ixs ws.length) ws M W=some Q:=by
  unfold Qch
  rw[show w64 ((0:Int)+1)=((1:Nat):Int) from Qa1 (by decide) (by decide)]
  exact q1
 unfold Qdw Qgm
 simp only[Qb0]
 rw[Qcx]
 by_cases h20:ws.length=20
 ·rw[show decide ((20:Int)<=(ws.length:Int))=true from by simp;omega,Xak]
  have e20:(20:Int)=(ws.length:Int):=by omega
  rw[show Qch (m+2) ws.length 0 20 (ixs ws.length) ws M W=some Q from by rw[e20];exact hins,Xaa,Qcx,show w64 ((20:Int)+20)=40 from Qa1 (by decide) (by decide),show decide ((40:Int)<=(ws.length:Int))=false from by simp;omega,Xai]
  dsimp only
  unfold Qch
  rw[show w64 ((20:Int)+1)=21 from Qa1 (by decide) (by decide),Qbd,show decide ((21:Int)<(ws.length:Int))=false from by simp;omega,Xai,Xaa,Qdg,show decide ((20:Int)<(ws.length:Int))=false from by simp;omega,Xai]
  rfl
 rw[show decide ((20:Int)<=(ws.length:Int))=false from by simp;omega,Xai]
 dsimp only
 rw[hins,Xaa,Qdg,show decide ((20:Int)<(ws.length:Int))=false from by simp;omega,Xai]
 rfl
theorem Zmb (ls:List Int) (k:List Int->Option (List Int)) (h8:ls.length<=20):∀(n i:Nat) (l:List Int),ls.length-i<n->i<=ls.length->l=ixs i ->
  Qej N ls k n i l=k (ixs ls.length):=by
 intro n
 induction n with
 |zero=>intro i _ h;cases h
 |succ n ih=>
  intro i l hn hi hl
  rw[Qej]
  by_cases h:i<ls.length
  ·have e1:w64 ((i:Int)+1)=((i+1:Nat):Int):=Qa1
   rw[show decide ((i:Int)<(ls.length:Int))=true from by simpa using h,Xak,e1]
   simp only[chk]
   rw[show decide ((l.length+[(i:Int)].length)*8<=140737488355328)=true from by rw[hl,Qmo];simp;omega,Xak]
   exact ih (i+1) _ (by omega) (by omega) (by rw[hl];simp[ixs,List.range_succ])
  rw[show decide ((i:Int)<(ls.length:Int))=false from by simpa using h,Xai,hl,show i=ls.length by omega]
theorem Q5a (h:WOk ws M W) (hL:ws.length<=20) (h1:1<=ws.length) (hN:1000<=N):∃Q,Qih N ws M W=some Q/\Q.Perm (ixs ws.length)/\Q.Pairwise (Qn7 (rkey M W) ws):=by
 obtain⟨Q,q1,q2,q3⟩:=Zlu (N:=N) h hL h1 hN
 refine⟨Q,?_,q2,q3⟩
 have hlen:=q2.length_eq
 rw[Qmo] at hlen
 unfold Qih
 simp only[Qb0]
 have:=Zmb (N:=N) ws (fun y3=>chk (!y3.isEmpty)<|(Qdw N y3.length y3 ws M W).bind fun x7=>chk (decide (y3.length<=x7.length))<|some (x7.take y3.length)) hL N 0 [] (by omega) (by omega) rfl
 refine this.trans ?_
 have he:(!(ixs ws.length).isEmpty)=true:=by
  cases hh:ixs ws.length with
  |nil=>have:=Qmo ws.length;rw[hh] at this;simp at this;omega
  |cons=>rfl
 simp only[chk,he,Xak,Qmo,q1,Xaa]
 rw[show decide (ws.length<=Q.length)=true by simp;omega,Xak,Xcb (by omega)]
end
end
section
def Qz9 (key:Int->Int) (ls:List Int) (mk:List Bool):Nat->Int
 |0=>-1
 |d+1=>if mk.getD d false=false/\(Qz9 key ls mk d<0\/key (ls.getD (Qz9 key ls mk d).toNat 0)<key (ls.getD d 0)) then d else Qz9 key ls mk d
theorem Q1c (key:Int->Int) (ls:List Int) (mk:List Bool):∀d,((∀i,i<d->mk.getD i false=true)/\Qz9 key ls mk d=-1) \/
  ∃b:Nat,b<d/\Qz9 key ls mk d=b/\mk.getD b false=false/\∀i:Nat,i<d->mk.getD i false=false->i=b\/Qn7 key ls b i
 |0=>.inl ⟨fun i h=>absurd h (by omega),rfl⟩
 |d+1=>by
  unfold Qz9
  rcases Q1c key ls mk d with ⟨h1,h2⟩ |⟨b,hb,h2,h3,h4⟩
  ·rw[h2]
   cases hm:mk.getD d false with
   |true=>exact .inl ⟨fun i hi=>(Xe2.1 hi).elim (h1 i) (fun e=>e▸hm),by rw[Xat (by simp)]⟩
   |false=>
    rw[Xaz ⟨rfl,.inl (by omega)⟩]
    refine .inr ⟨d,by omega,rfl,hm,fun i hi hn=>?_⟩
    rcases Xe2.1 hi with h |h
    ·rw[h1 i h] at hn;exact absurd hn (by simp)
    exact .inl h
  rw[h2]
  by_cases hc:mk.getD d false=false/\((b:Int)<0\/key (ls.getD (b:Int).toNat 0)<key (ls.getD d 0))
  ·rw[Xaz hc]
   have hk:key (ls.getD b 0)<key (ls.getD d 0):=hc.2.elim (fun h=>by omega) (fun h=>by simpa using h)
   refine .inr ⟨d,by omega,rfl,hc.1,fun i hi hn=>?_⟩
   rcases Xe2.1 hi with h |h
   ·rcases h4 i h hn with rfl |h5
    ·exact .inr (.inl (by simpa using hk))
    refine .inr (.inl ?_)
    unfold Qn7 at h5
    simp only[Xbf] at h5 ⊢
    omega
   exact .inl h
  rw[Xat hc]
  refine .inr ⟨b,by omega,rfl,h3,fun i hi hn=>?_⟩
  rcases Xe2.1 hi with h |rfl
  ·exact h4 i h hn
  refine .inr ?_
  have:¬key (ls.getD (b:Int).toNat 0)<key (ls.getD i 0):=fun h=>hc ⟨hn,.inr h⟩
  unfold Qn7
  simp only[Xbf] at this ⊢
  omega
theorem Zdr {key:Int->Int}{ls L:List Int}{mk:List Bool}{n k:Nat}(hL:L.Pairwise (Qn7 key ls)) (hm:∀i:Nat,i<n->(i:Int)∈L) (hr:∀x∈L,0<=x/\x<n)
  (hmk:∀i:Nat,i<n->(mk.getD i false=true↔(i:Int)∈L.take k)) (hk:k<L.length):Qz9 key ls mk n=L[k]:=by
 have hd:L.Pairwise (· ≠ ·):=hL.imp (fun {a b} h e=>by subst e;exact Qtf h h)
 obtain⟨x0,x1⟩:=hr L[k] (Xb2 hk)
 have hx:((L[k].toNat:Nat):Int)=L[k]:=Int.toNat_of_nonneg x0
 have hun:mk.getD L[k].toNat false=false:=by
  cases h:mk.getD L[k].toNat false with
  |false=>rfl
  |true=>
   have:=(hmk _ (by omega)).1 h
   rw[hx,Xey] at this
   obtain⟨i,hi,e⟩:=this
   exact absurd e ((Xgd.1 hd) i k (by omega) hk (by omega))
 rcases Q1c key ls mk n with ⟨h1,_⟩ |⟨b,hb,h2,h3,h4⟩
 ·rw[h1 _ (by omega)] at hun
  exact absurd hun (by simp)
 rw[h2]
 rcases h4 L[k].toNat (by omega) hun with h |h
 ·omega
 exfalso
 obtain⟨j,hj,e⟩:=Xdz (hm b hb)
 have hjk:¬j<k:=fun hlt=>by
  have:=(hmk b hb).2 (by rw[Xey];exact⟨j,by omega,e⟩)
  rw[h3] at this
  exact absurd this (by simp)
 rw[hx] at h
 rcases Nat.lt_or_eq_of_le (Xc9 hjk) with h5 |h5
 ·have:=(Xgd.1 hL) k j hk hj h5
  rw[e] at this
  exact Qtf h this
 subst h5
 rw[e] at h
 exact Qtf h h
def mark (l:List Bool) (i:Int):List Bool:=l.set i.toNat true
theorem Q8h (l:List Bool) (i:Int):(mark l i).length=l.length:=by simp[mark]
theorem Zda (p:List Int):∀(l:List Bool) (i:Nat),i<l.length->(∀x∈p,0<=x)->((p.foldl mark l).getD i false=true↔((i:Int)∈p\/l.getD i false=true)):=by
 induction p with
 |nil=>exact fun l i _ _=>by simp
 |cons x r ih=>
  intro l i hi h0
  have hx:=h0 x Xb9
  rw[Xec,ih (mark l x) i (by rw[Q8h];exact hi) (fun y hy=>h0 y (Xal _ hy)),Xa7]
  have e:(mark l x).getD i false=true↔((i:Int)=x\/l.getD i false=true):=by
   simp only[mark,Xaj,Xev]
   by_cases h:x.toNat=i
   ·have:(i:Int)=x:=by omega
    simp[h,hi,this]
   have:¬(i:Int)=x:=by omega
   simp[h,this]
  rw[e]
  constructor
  ·rintro (h |h |h)
   ·exact .inl (.inr h)
   ·exact .inl (.inl h)
   exact .inr h
  rintro ((h |h) |h)
  ·exact .inr (.inl h)
  ·exact .inl h
  exact .inr (.inr h)
theorem Zc9 {L:List Int}{n k:Nat}(hr:∀x∈L,0<=x/\x<n) (i:Nat) (hi:i<n):(((L.take k).foldl mark (List.replicate n false)).getD i false=true↔(i:Int)∈L.take k):=by
 rw[Zda _ _ _ (by simpa using hi) (fun x hx=>(hr x (Xfq hx)).1)]
 simp[hi,Xaj]
def bump (l:List Int) (i:Int):List Int:=l.set i.toNat (l.getD i.toNat 0+1)
theorem Qo0 (l:List Int) (i:Int):(bump l i).length=l.length:=by simp[bump]
theorem Q6i (p:List Int):∀l:List Int,(p.foldl bump l).length=l.length:=by
 induction p with
 |nil=>exact fun _=>rfl
 |cons x r ih=>exact fun l=>(ih (bump l x)).trans (Qo0 l x)
theorem Q6j:∀(is l:List Int),is.Nodup->(∀x∈is,0<=x/\x<l.length)->∀i:Nat,i<l.length->(is.foldl bump l)[i]? = some (l.getD i 0+if (i:Int)∈is then 1 else 0)
 |[],l,_,_,i,hi=>by simp[Xaj,hi]
 |x::is,l,hn,hb,i,hi=>by
  obtain⟨hx,hn'⟩:=Xem.1 hn
  have hbx:=hb x (by simp)
  have ih:=Q6j is (bump l x) hn' (fun y hy=>by rw[Qo0];exact hb y (by simp[hy])) i (by rw[Qo0];exact hi)
  rw[Xec,ih]
  congr 1
  by_cases e:(i:Int)=x
  ·subst e
   have h1:(bump l (i:Int)).getD i 0=l.getD i 0+1:=by
    unfold bump
    rw[Xbf,Xaj,Xd0 hi]
    rfl
   rw[h1,Xat hx,Xaz (by simp)]
   omega
  have h1:(bump l x).getD i 0=l.getD i 0:=by
   unfold bump
   rw[Xaj,Xci (by omega),<-Xaj]
  rw[h1]
  have:((i:Int)∈x::is)↔((i:Int)∈is):=by simp[e]
  simp only[this]
theorem Zg1:∀(o:List Int) (i:Nat) (x y:Int),o[i]? = some x->(o.set i y).sum=o.sum+(y-x)
 |[],_,_,_,h=>by simp at h
 |a::o,0,x,y,h=>by simp at h;subst h;simp only[Xgb,Xb0];omega
 |a::o,i+1,x,y,h=>by
  have:=Zg1 o i x y (by simpa using h)
  simp only[List.set_cons_succ,Xb0,this];omega
theorem Q6h:∀(is l:List Int),(∀x∈is,0<=x/\x<l.length)->(is.foldl bump l).sum=l.sum+is.length
 |[],l,_=>by simp
 |x::is,l,h=>by
  have hx:=h x (by simp)
  have hg:l[x.toNat]? = some (l.getD x.toNat 0):=by rw[Xaj,Xab (by omega)];rfl
  rw[Xec,Q6h is (bump l x) (fun y hy=>by rw[Qo0];exact h y (by simp[hy])),bump,Zg1 l _ _ _ hg]
  simp only[Xa5]
  omega
def Quu (M:Int) (ws:List Int):List Int:=ws.map fun w=>M*w/ws.sum
def Qui (M:Int) (ws:List Int):Int:=M-(Quu M ws).sum
def Zc5 (key:Int->Int) (ls:List Int) (n:Nat):Nat->List Bool->List Int
 |0,_=>[]
 |k+1,mk=>Qz9 key ls mk n::Zc5 key ls n k (mark mk (Qz9 key ls mk n))
def Qml (M:Int) (ws:List Int):List Int:=(Zc5 (rkey M ws.sum) ws ws.length (Qui M ws).toNat (List.replicate ws.length false)).foldl bump (Quu M ws)
theorem Za5 {key:Int->Int}{ls L:List Int}(hp:L.Perm (ixs ls.length)) (hL:L.Pairwise (Qn7 key ls)):∀(k j:Nat),j+k<=L.length->Zc5 key ls ls.length k ((L.take j).foldl mark (List.replicate ls.length false))=(L.drop j).take k
 |0,j,_=>by simp[Zc5]
 |k+1,j,h=>by
  have hr:∀x∈L,0<=x/\x<ls.length:=fun x hx=>Qy1.1 (hp.mem_iff.1 hx)
  have hb:Qz9 key ls ((L.take j).foldl mark (List.replicate ls.length false)) ls.length=L[j]'(by omega):=Zdr hL (fun i hi=>hp.mem_iff.2 (Qy1.2 ⟨by omega,by omega⟩)) hr (fun i hi=>Zc9 hr i hi) (by omega)
  have ht:mark ((L.take j).foldl mark (List.replicate ls.length false)) (L[j]'(by omega))=(L.take (j+1)).foldl mark (List.replicate ls.length false):=by
   rw[Xfe,Xab (by omega),List.foldl_append]
   rfl
  rw[Zc5,hb,ht,Za5 hp hL k (j+1) (by omega),Xbe (show j<L.length by omega),Xg3]
structure WtsV (ws:List Int):Prop where
 l1:1<=ws.length
 l2:ws.length<=20
 w:∀x∈ws,0<=x/\x<=1000
 some:∃x∈ws,x>0
theorem Zqv {ws:List Int}(h:wtsB ws=true):WtsV ws:=by
 unfold wtsB at h
 simp only[Xaq] at h
 obtain⟨h1,h2,h3⟩:=h
 have:=Qeb.1 h1
 refine⟨by omega,by omega,fun x hx=>Qeb.1 (Xa6.1 h2 x hx),?_⟩
 obtain⟨x,hx,h4⟩:=Xe1.1 h3
 exact⟨x,hx,by simpa using h4⟩
theorem Zcx (ws:List Int) (h:∀x∈ws,0<=x/\x<=1000):0<=ws.sum/\ws.sum<=1000*ws.length:=by
 induction ws with
 |nil=>simp
 |cons a l ih=>
  have h1:=ih fun x hx=>h x (Xal _ hx)
  have h2:=h a Xb9
  simp only[Xb0,Xa5]
  omega
theorem WtsV.sum {ws:List Int}(h:WtsV ws):0<ws.sum/\ws.sum<=20000:=by
 have h1:=Zcx ws h.w
 have h2:=(Zgu fun x hx=>(h.w x hx).1).2.2 h.some
 have:=h.l2
 omega
theorem WtsV.ok {ws:List Int}(h:WtsV ws) {M:Int}(h0:0<=M) (h1:M<=1000000):WOk ws M ws.sum:=⟨h.w,h0,h1,h.sum.1,h.sum.2⟩
theorem Qvk:∀(ws:List Int),(∀x∈ws,0<=x)->∀x∈ws,x<=ws.sum
 |a::l,h,x,hx=>by
  have h1:=(Zgu fun y hy=>h y (Xal a hy)).1
  have h2:=h a Xb9
  rw[Xb0]
  rcases Xa7.1 hx with rfl |hx
  ·omega
  have:=Qvk l (fun y hy=>h y (Xal a hy)) x hx
  omega
theorem Zb0 {M W:Int}(hM:0<=M) (hW:0<W):∀(l:List Int),(∀x∈l,0<=x)->W*(l.map fun w=>M*w/W).sum<=M*l.sum/\M*l.sum<=W*(l.map fun w=>M*w/W).sum+(W-1)*l.length/\0<=(l.map fun w=>M*w/W).sum
 |[],_=>by simp
 |x::l,h=>by
  obtain⟨h1,h2,h3⟩:=Zb0 hM hW l fun y hy=>h y (Xal _ hy)
  have b:=h x (by simp)
  have p0:=Xfh hM b
  have q0:=Xf0 p0 (show 0<=W by omega)
  have q1:=Int.emod_add_mul_ediv (M*x) W
  have q2:=Int.emod_nonneg (M*x) (show W≠0 by omega)
  have q3:=Int.emod_lt_of_pos (M*x) hW
  simp only[Xax,Xb0,Xa5,Xg7,Int.natCast_add,Int.natCast_one,Int.mul_one]
  omega
theorem Q8l {M:Int}{ws:List Int}(h:WtsV ws) (h0:0<=M):0<=Qui M ws/\Qui M ws<ws.length/\0<=(Quu M ws).sum:=by
 obtain⟨w0,w1⟩:=h.sum
 obtain⟨b1,b2,b3⟩:=Zb0 h0 w0 ws fun x hx=>(h.w x hx).1
 have hl:=h.l1
 generalize hS:(ws.map fun w=>M*w/ws.sum).sum=S at b1 b2 b3
 have hB:(Quu M ws).sum=S:=hS
 unfold Qui
 rw[hB]
 rw[Xgc M] at b1 b2
 have c1:S<=M:=Xh6 b1 w0
 have c2:M<S+ws.length:=by
  apply Xh7
  intro hc
  have:ws.sum*(S+ws.length)<=ws.sum*M:=Xbo (by omega) (by omega)
  rw[Xg7] at this
  rw[Xfz] at b2
  omega
 omega
theorem Qs9 {M:Int}{ws L:List Int}(h:WtsV ws) (h0:0<=M) (hp:L.Perm (ixs ws.length)) (hL:L.Pairwise (Qn7 (rkey M ws.sum) ws)) :
  Zc5 (rkey M ws.sum) ws ws.length (Qui M ws).toNat (List.replicate ws.length false)=L.take (Qui M ws).toNat:=by
 have hb:=Q8l h h0
 have hlen:=hp.length_eq
 rw[Qmo] at hlen
 have:=Za5 hp hL (Qui M ws).toNat 0 (by omega)
 simpa using this
theorem Q5b {M:Int}{ws:List Int}(h:WtsV ws) (h0:0<=M) (h1:M<=1000000):∃L:List Int,L.Perm (ixs ws.length)/\L.Pairwise (Qn7 (rkey M ws.sum) ws):=by
 obtain⟨Q,_,q2,q3⟩:=Q5a (N:=1000) (h.ok h0 h1) h.l2 h.l1 (Xay _)
 exact⟨Q,q2,q3⟩
theorem Qny (M:Int) (ws:List Int):(Quu M ws).length=ws.length:=by simp[Quu]
theorem Qk0 (M:Int) (ws:List Int):(Qml M ws).length=ws.length:=by rw[Qml,Q6i,Qny]
theorem Qyz {M:Int}{ws:List Int}(h:WtsV ws) (h0:0<=M) (h1:M<=1000000):(Qml M ws).sum=M:=by
 obtain⟨L,hp,hL⟩:=Q5b h h0 h1
 have hb:=Q8l h h0
 have hlen:=hp.length_eq
 rw[Qmo] at hlen
 rw[Qml,Qs9 h h0 hp hL,Q6h _ _ (fun x hx=>by rw[Qny];exact Qy1.1 (hp.mem_iff.1 (Xfq hx))),Xdk]
 unfold Qui at hb ⊢
 omega
theorem Q3t {M:Int}{ws:List Int}(h:WtsV ws) (h0:0<=M):∀x∈Quu M ws,0<=x/\x<=M:=by
 intro x hx
 obtain⟨w,hw,rfl⟩:=Xba.1 hx
 obtain⟨w0,w1⟩:=h.sum
 have:=h.w w hw
 have hle:=Qvk ws (fun y hy=>(h.w y hy).1) w hw
 refine⟨Xf0 (Xfh h0 this.1) (by omega),Xg0 w0 ?_⟩
 exact Xbo hle h0
theorem Q02 {M:Int}{ws:List Int}(h:WtsV ws) (h0:0<=M) (h1:M<=1000000):∀x∈Qml M ws,0<=x/\x<=M:=by
 have hs:=Qyz h h0 h1
 obtain⟨L,hp,hL⟩:=Q5b h h0 h1
 have hnd:L.Nodup:=hp.nodup_iff.2 (Zie _)
 have hn:∀x∈Qml M ws,0<=x:=fun x hx=>by
  obtain⟨i,hi⟩:=List.mem_iff_getElem?.1 hx
  have hil:i<ws.length:=by have:=(Xad.1 hi).1;rwa [Qk0] at this
  rw[Qml,Qs9 h h0 hp hL,Q6j _ _ (hnd.sublist (List.take_sublist _ _)) (fun x hx=>by rw[Qny];exact Qy1.1 (hp.mem_iff.1 (Xfq hx))) i (by rw[Qny];exact hil)] at hi
  have hbx:=Q3t h h0 ((Quu M ws)[i]'(by rw[Qny];exact hil)) (Xb2 _)
  have hg:(Quu M ws).getD i 0=(Quu M ws)[i]'(by rw[Qny];exact hil):=by rw[Xaj,Xab (by rw[Qny];exact hil)];rfl
  rw[hg] at hi
  have:=Xfv hi
  split at this<;>omega
 intro x hx
 exact⟨hn x hx,by rw[<-hs];exact Qvk _ hn x hx⟩
section
variable {N : Nat} {M : Int} {ws : List Int} (h : WtsV ws) (h0 : 0 <= M) (h1 : M <= 1000000) (hN : 1001 <= N)
include h in
theorem Zcq (k:Int->Option (List Int)):∀(n i:Nat) (s:Int),(ws.drop i).length<n->0<=s->s<=1000*i->Qf4 N ws k n i s=k (s+(ws.drop i).sum):=by
 intro n
 induction n with
 |zero=>intro i _ h;cases h
 |succ n ih=>
  intro i s hn s0 s1
  rw[Qf4]
  cases hd:ws.drop i with
  |nil=>
   have:=Qca hd
   simp[show ¬((i:Int)<ws.length) from by omega]
  |cons a l=>
   obtain⟨hg,hd',hlt⟩:=Qbn hd
   have ha:=h.w a (Xac hg)
   have:=h.l2
   simp only[dlI hlt,Xak,Qb8 hg,Xaa,Xb0]
   rw[Qa1 (x:=(i:Int)+1),Qa1 (x:=s+a),show(i:Int)+1=((i+1:Nat):Int) by omega,ih (i+1) (s+a) (by rw[hd'];rw[hd] at hn;simp at hn;omega) (by omega) (by omega),hd',Xfr]
include h h0 h1 in
theorem Zjw (k:Int×List Int->Option (List Int)):∀(n i:Nat) (r:Int) (o:List Int),(ws.drop i).length<n->i<=ws.length->o.length=ws.length-i->-1000000*(i:Int)<=r->r<=1000000 ->
  Qf5 N M ws ws.sum k n r i (((ws.take i).map fun w=>M*w/ws.sum)++o)=k (r-((ws.drop i).map fun w=>M*w/ws.sum).sum,Quu M ws):=by
 intro n
 induction n with
 |zero=>intro i _ _ h;cases h
 |succ n ih=>
  intro i r o hn hi ho r0 r1
  rw[Qf5]
  cases hd:ws.drop i with
  |nil=>
   have:=Qca hd
   have e:o=[]:=Xgm.1 (by omega)
   simp[show ¬((i:Int)<ws.length) from by omega,e,Xcb this,Quu]
  |cons a l=>
   obtain⟨hg,hd',hlt⟩:=Qbn hd
   have ha:=h.w a (Xac hg)
   have hl2:=h.l2
   obtain⟨p0,p1⟩:=h.sum
   obtain⟨x,o',rfl⟩:∃x o',o=x::o':=by
    cases o with
    |nil=>simp at ho;omega
    |cons x o'=>exact⟨x,o',rfl⟩
   have hb:=Q3t h h0 (M*a/ws.sum) (Xba.2 ⟨a,Xac hg,rfl⟩)
   have hp:=bdp h0 h1 ha.1 ha.2 (by omega)
   have hlt':((ws.take i).map fun w=>M*w/ws.sum).length=i:=by simp;omega
   have e2:∀y,(((ws.take i).map fun w=>M*w/ws.sum)++y::o')[i]? = some y:=fun y=>by rw[Xam (by omega),hlt'];simp
   have e3:(((ws.take i).map fun w=>M*w/ws.sum)++x::o').set i (M*a/ws.sum)=((ws.take i).map fun w=>M*w/ws.sum)++(M*a/ws.sum)::o':=by
    rw[Xdg _ _ (by omega),hlt',Xd3,Xgb]
   have e5:((ws.take i).map fun w=>M*w/ws.sum)++(M*a/ws.sum)::o'=((ws.take (i+1)).map fun w=>M*w/ws.sum)++o':=by
    rw[Xfe,hg];simp
   have e4:((i:Int):Int).toNat=i:=by omega
   have c1:(decide ((0:Int)<=(i:Int))&&decide (i<(ws.length:Int).toNat))=true:=by simp;omega
   have ev:w64 ((w64 (M*a)).tdiv ws.sum)=M*a/ws.sum:=by
    rw[Qa1 (x:=M*a),Xex hp.1,Qa1]
   simp only[dlI hlt,Xak,Qb8 hg,Xaa,chk,show(ws.sum != 0)=true from by rw[Xeb];omega,e4,c1,e2,ev,e3]
   rw[Qa1 (x:=(i:Int)+1),Qa1 (x:=r-M*a/ws.sum),show(i:Int)+1=((i+1:Nat):Int) by omega,e5,ih (i+1) _ o' (by rw[hd'];rw[hd] at hn;simp at hn;omega) (by omega) (by simp at ho;omega) (by omega) (by omega),hd',Xax,Xb0]
   congr 2
   omega
theorem Zjt (k:List Int->Option (List Int)) (x13:List Int) (y6:Int) (is:List Int) (his:x13.take (y6.toNat-0)=is) (hlen:is.length<=20) (hr:∀x∈is,0<=x/\x<ws.length):∀(n i:Nat) (o:List Int),(is.drop i).length<n->o.length=ws.length->(∀x∈o,0<=x/\x<=1000000+i) ->
  Qf6 N ws y6 k x13 n i o=k ((is.drop i).foldl bump o):=by
 intro n
 induction n with
 |zero=>intro i _ h;cases h
 |succ n ih=>
  intro i o hn ho hob
  rw[Qf6,his]
  cases hd:is.drop i with
  |nil=>
   have:=Qca hd
   simp[show ¬((i:Int)<is.length) from by omega]
  |cons b t=>
   obtain⟨hg,hd',hlt⟩:=Qbn hd
   obtain⟨b0,b1⟩:=hr b (Xac hg)
   have hx:o[b.toNat]? = some (o.getD b.toNat 0):=by rw[Xaj,Xab (by omega)];rfl
   have hxb:=hob _ (Xac hx)
   have c1:(decide ((0:Int)<=b)&&decide (b.toNat<(ws.length:Int).toNat))=true:=by simp;omega
   simp only[dlI hlt,Xak,Qb8 hg,Xaa,chk,c1,hx]
   rw[Qa1 (x:=(i:Int)+1),Qa1 (x:=o.getD b.toNat 0+1),show(i:Int)+1=((i+1:Nat):Int) by omega]
   have:=ih (i+1) (bump o b) (by rw[hd'];rw[hd] at hn;simp at hn;omega) (by rw[Qo0];exact ho) (fun z hz=>by
    rcases Xd8 hz with hz |rfl
    ·have:=hob z hz;omega
    omega)
   rw[hd'] at this
   exact this
include h h0 h1 hN in
theorem Zh3:Ql5 N M ws=some (Qml M ws):=by
 have hl1:=h.l1
 have hl2:=h.l2
 unfold Ql5
 simp only[Qb0]
 refine(Zcq h _ N 0 0 (by simp;omega) (by omega) (by omega)).trans ?_
 rw[Xap,Xep]
 simp only[chk]
 rw[show(decide ((0:Int)<=(ws.length:Int))&&decide (8*(ws.length:Int)<=281474976710656)&&decide ((ws.length:Int)<=9223372036854775807))=true from by simp;omega,Xak]
 have eo:=fun k=>Zjw (N:=N) h h0 h1 k N 0 M (List.replicate (ws.length:Int).toNat 0) (by simp;omega) (by omega) (by simp) (by omega) h1
 simp only[Xh3,Xbz,Xa9,Xap] at eo
 refine(eo _).trans ?_
 dsimp only
 obtain⟨Q,q1,q2,q3⟩:=Q5a (N:=N) (h.ok h0 h1) hl2 hl1 (by omega)
 have hlen:=q2.length_eq
 rw[Qmo] at hlen
 have hb:=Q8l h h0
 have hL:M-(ws.map fun w=>M*w/ws.sum).sum=Qui M ws:=rfl
 rw[q1,Xaa,hL,show(decide ((0:Nat)<=0)&&decide (0<=Qui M ws)&&decide (Qui M ws<=(Q.length:Int)))=true from by simp;omega,Xak]
 have hr:∀x∈Q.take ((Qui M ws).toNat-0),0<=x/\x<ws.length:=fun x hx=>Qy1.1 (q2.mem_iff.1 (Xfq hx))
 refine(Zjt _ Q (Qui M ws) _ rfl (by rw[Xdk];omega) hr N 0 (Quu M ws) (by rw[Xap,Xdk];omega) (Qny _ _) (fun x hx=>by have:=Q3t h h0 x hx;omega)).trans ?_
 have hm:(Q.take ((Qui M ws).toNat-0)).foldl bump (Quu M ws)=Qml M ws:=by
  rw[Qml,Qs9 h h0 q2 q3,Xga]
 rw[Xap,hm,Qk0,show decide ((ws.length:Int).toNat<=ws.length)=true from by simp,Xak,Xcb (by rw[Qk0];simp)]
end
end
section
def totS (l:List Qaa):Qaa:=⟨(l.map fun s=>s.Mass).sum,(l.map fun s=>s.Heat).sum,(l.map fun s=>s.Silica).sum,(l.map fun s=>s.Gas).sum⟩
def totW (l:List Qaa):Qaa:=⟨w64 (totS l).Mass,w64 (totS l).Heat,w64 (totS l).Silica,w64 (totS l).Gas⟩
theorem Zgp (N:Nat) (l:List Qaa) (k:Int×Int×Int×Int->Option Qaa) (hl:l.length<=1000000):∀(n i:Nat) (a b c d:Int),(l.drop i).length<n ->
  Qg8 N l k n i (w64 a) (w64 b) (w64 c) (w64 d)=k (w64 (a+(totS (l.drop i)).Mass),w64 (b+(totS (l.drop i)).Heat),w64 (c+(totS (l.drop i)).Silica),w64 (d+(totS (l.drop i)).Gas)):=by
 intro n
 induction n with
 |zero=>intro i _ _ _ _ h;cases h
 |succ n ih=>
  intro i a b c d h
  rw[Qg8]
  cases hd:l.drop i with
  |nil=>
   have:=Qca hd
   simp[show ¬((i:Int)<l.length) from by omega,totS]
  |cons x q=>
   obtain⟨hg,hd',hlt⟩:=Qbn hd
   simp only[dlI hlt,Xak,Qb8 hg,Xaa,Qrm]
   rw[w64S (i:=i) (by omega),ih (i+1) _ _ _ _ (dlt hd hd' h),hd']
   simp only[totS,Xax,Xb0,Xfr]
theorem Q2d:w64 0=0:=by decide
theorem Qx1 {N:Nat}{l:List Qaa}(hl:l.length<=1000) (hN:1001<=N):Qgt N l=some (totW l):=by
 unfold Qgt
 simp only[Qb0]
 have:=Zgp N l (fun x=>match x with |(y1,y2,y3,y4)=>some (⟨y1,y2,y3,y4⟩:Qaa)) (by omega) N 0 0 0 0 0 (by simp;omega)
 rw[Q2d,Xap] at this
 refine this.trans ?_
 simp[totW]
theorem Zgv (N:Nat) (l:List Qaa) (k:Int×Int×Int×Int->Option Qaa) (hl:l.length<=1000000):∀(n i:Nat) (a b c d:Int),(l.drop i).length<n ->
  Qht N l k n i (w64 a) (w64 b) (w64 c) (w64 d)=k (w64 (a+(totS (l.drop i)).Mass),w64 (b+(totS (l.drop i)).Heat),w64 (c+(totS (l.drop i)).Silica),w64 (d+(totS (l.drop i)).Gas)):=by
 intro n
 induction n with
 |zero=>intro i _ _ _ _ h;cases h
 |succ n ih=>
  intro i a b c d h
  rw[Qht]
  cases hd:l.drop i with
  |nil=>
   have:=Qca hd
   simp[show ¬((i:Int)<l.length) from by omega,totS]
  |cons x q=>
   obtain⟨hg,hd',hlt⟩:=Qbn hd
   simp only[dlI hlt,Xak,Qb8 hg,Qm4,Qee,Xaa,Qrm]
   rw[w64S (i:=i) (by omega),ih (i+1) _ _ _ _ (dlt hd hd' h),hd']
   simp only[totS,Xax,Xb0,Xfr]
theorem Zrb {N:Nat}{l:List Qaa}(hl:l.length<=1000) (hN:1001<=N):Qof N l=some (totW l):=by
 unfold Qof
 simp only[Qb0]
 have:=Zgv N l (fun x=>match x with |(y1,y2,y3,y4)=>some (⟨y1,y2,y3,y4⟩:Qaa)) (by omega) N 0 0 0 0 0 (by simp;omega)
 rw[Q2d,Xap] at this
 refine this.trans ?_
 simp[totW]
theorem Qrn (s:Qaa) (l:List Qaa):totS (s::l)=⟨s.Mass+(totS l).Mass,s.Heat+(totS l).Heat,s.Silica+(totS l).Silica,s.Gas+(totS l).Gas⟩:=by simp[totS]
theorem Qqs (s:Qaa):totS [s]=s:=by simp[totS]
theorem Q7x (l m:List Qaa):totS (l++m)=⟨(totS l).Mass+(totS m).Mass,(totS l).Heat+(totS m).Heat,(totS l).Silica+(totS m).Silica,(totS l).Gas+(totS m).Gas⟩:=by simp[totS]
structure TotV (t:Qaa) (n:Nat):Prop where
 m0:0<=t.Mass
 m1:t.Mass<=1000000*n
 h0:0<=t.Heat
 h1:t.Heat<=4000*t.Mass
 s0:0<=t.Silica
 s1:t.Silica<=10000*t.Mass
 g0:0<=t.Gas
 g1:t.Gas<=1000000000*n
theorem Qpz:∀{l:List Qaa},(∀s∈l,StrV s)->TotV (totS l) l.length
 |[],_=>⟨by decide,by decide,by decide,by decide,by decide,by decide,by decide,by decide⟩
 |s::l,h=>by
  obtain⟨a1,a2,a3,a4,a5,a6,a7,a8⟩:=Qpz fun x hx=>h x (Xal s hx)
  obtain⟨b1,b2,b3,b4,b5,b6,b7,b8⟩:=h s Xb9
  rw[Qrn]
  refine⟨?_,?_,?_,?_,?_,?_,?_,?_⟩<;>simp only[Xa5]<;>omega
theorem Qu6 {l:List Qaa}(h:∀s∈l,StrV s) (hl:l.length<=1000):totW l=totS l:=by
 obtain⟨a1,a2,a3,a4,a5,a6,a7,a8⟩:=Qpz h
 have:(l.length:Int)<=1000:=by omega
 unfold totW
 rw[Qa1 (x:=(totS l).Mass),Qa1 (x:=(totS l).Heat),Qa1 (x:=(totS l).Silica),Qa1 (x:=(totS l).Gas)]
theorem Zlp {l:List Qaa}(h:∀s∈l,StrV s) (hm:(totS l).Mass<=1000000) (hg:(totS l).Gas<=1000000000):StrV (totS l):=by
 obtain⟨a1,a2,a3,a4,a5,a6,a7,a8⟩:=Qpz h
 exact⟨a1,hm,a3,a4,a5,a6,a7,hg⟩
def mx (s:Qaa):Int:=if s.Mass>1 then s.Mass else 1
def Q8a (s:Qaa) (m:Int):Qaa:=⟨m,s.Heat*m/mx s,s.Silica*m/mx s,s.Gas*m/mx s⟩
def Qkz (s:Qaa) (ws:List Int):List Qaa:=(Qml s.Mass ws).map (Q8a s)
def Qp2 (s:Qaa) (ws:List Int):Qrg:=⟨s.Heat-(totS (Qkz s ws)).Heat,s.Silica-(totS (Qkz s ws)).Silica,s.Gas-(totS (Qkz s ws)).Gas⟩
theorem Q5p (s:Qaa):0<mx s:=by unfold mx;split<;>omega
theorem Zry {s:Qaa}(h:0<=s.Mass):s.Mass<=mx s:=by unfold mx;split<;>omega
theorem Zhf {n m c:Int}{s:Qaa}(hM:0<=s.Mass) (hm:0<=m) (hn:n<=c*s.Mass) (hc:0<=c):n*m/mx s<=c*m:=by
 have h1:n*m<=c*s.Mass*m:=Int.mul_le_mul_of_nonneg_right hn hm
 have h2:c*s.Mass*m<=c*m*mx s:=by
  rw[Int.mul_assoc,Int.mul_assoc,Xgc s.Mass m]
  exact Xbo (Xbo (Zry hM) hm) hc
 exact Xg0 (Q5p s) (Xgz h1 h2)
theorem Q2z {n m:Int}{s:Qaa}(hM:0<=s.Mass) (hm:0<=m) (hmM:m<=s.Mass) (hn:0<=n):0<=n*m/mx s/\n*m/mx s<=n:=by
 have hp:=Q5p s
 refine⟨Xf0 (Xfh hn hm) (by omega),Xg0 hp ?_⟩
 have:=Zry hM
 exact Xbo (by omega) hn
theorem Zl7 {s:Qaa}(hs:StrV s) {m:Int}(h0:0<=m) (h1:m<=s.Mass):StrV (Q8a s m):=by
 obtain⟨a1,a2,a3,a4,a5,a6,a7,a8⟩:=hs
 have b1:=Q2z a1 h0 h1 a3
 have b2:=Zhf a1 h0 a4 (by omega)
 have b3:=Q2z a1 h0 h1 a5
 have b4:=Zhf a1 h0 a6 (by omega)
 have b5:=Q2z a1 h0 h1 a7
 exact⟨h0,by dsimp only[Q8a];omega,b1.1,b2,b3.1,b4,b5.1,by dsimp only[Q8a];omega⟩
theorem Za6 {n:Int}{s:Qaa}(hn:0<=n):∀(l:List Int),(∀m∈l,0<=m)->mx s*(l.map fun m=>n*m/mx s).sum<=n*l.sum
 |[],_=>by simp
 |m::l,h=>by
  have h1:=Za6 (n:=n) (s:=s) hn l fun x hx=>h x (Xal _ hx)
  have hp:=Q5p s
  have h2:=Int.mul_ediv_self_le (x:=n*m) (k:=mx s) (by omega)
  simp only[Xax,Xb0,Xg7]
  omega
theorem Q2y {n:Int}{s:Qaa}(hn:0<=n) (hM:0<=s.Mass) {l:List Int}(h:∀m∈l,0<=m) (hl:l.sum=s.Mass):(l.map fun m=>n*m/mx s).sum<=n:=by
 have h1:=Za6 (s:=s) hn l h
 have hp:=Q5p s
 rw[hl] at h1
 have h2:n*s.Mass<=n*mx s:=Xbo (Zry hM) hn
 rw[Xgc n (mx s)] at h2
 exact Xh6 (Xgz h1 h2) hp
theorem Zcu (s:Qaa) (l:List Int):totS (l.map (Q8a s))=⟨l.sum,(l.map fun m=>s.Heat*m/mx s).sum,(l.map fun m=>s.Silica*m/mx s).sum,(l.map fun m=>s.Gas*m/mx s).sum⟩:=by
 simp[totS,Q8a,Xht]
structure Zy9 (s:Qaa) (o:List Qaa) (l:Qrg):Prop where
 v:∀x∈o,StrV x
 m:(totS o).Mass=s.Mass
 h:(totS o).Heat+l.Heat=s.Heat
 q:(totS o).Silica+l.Silica=s.Silica
 g:(totS o).Gas+l.Gas=s.Gas
 h0:0<=l.Heat
 q0:0<=l.Silica
 g0:0<=l.Gas
theorem Qqg {s:Qaa}(hs:StrV s) {ws:List Int}(h:WtsV ws):Zy9 s (Qkz s ws) (Qp2 s ws):=by
 have hs':=hs
 obtain⟨a1,a2,a3,a4,a5,a6,a7,a8⟩:=hs'
 have hsum:=Qyz h a1 a2
 have hbd:=Q02 h a1 a2
 have hnn:∀m∈Qml s.Mass ws,0<=m:=fun m hm=>(hbd m hm).1
 have e:totS (Qkz s ws)=_:=Zcu s (Qml s.Mass ws)
 have t1:=Q2y (n:=s.Heat) (s:=s) a3 a1 hnn hsum
 have t2:=Q2y (n:=s.Silica) (s:=s) a5 a1 hnn hsum
 have t3:=Q2y (n:=s.Gas) (s:=s) a7 a1 hnn hsum
 refine⟨fun x hx=>?_,?_,?_,?_,?_,?_,?_,?_⟩
 ·obtain⟨m,hm,rfl⟩:=Xba.1 hx
  exact Zl7 hs (hbd m hm).1 (hbd m hm).2
 ·rw[e];exact hsum
 all_goals (simp only[Qp2,e];omega)
section
variable {N : Nat} {s : Qaa} {ws : List Int} (hs : StrV s) (h : WtsV ws) (hN : 1001 <= N)
include hs in
theorem Zho {n m:Int}(hn:0<=n) (hn':n<=10000000000) (h0:0<=m) (h1:m<=s.Mass) (a b c:Int):Qhu N n m s.Mass a b c=some (n*m/mx s):=by
 have hM:=hs.m1
 have hM0:=hs.m0
 have hp:=bdp hn hn' h0 (show m<=1000000 by omega) (by omega)
 have hb:=Q2z hM0 h0 h1 hn
 have hx:=Q5p s
 unfold Qhu
 show chk (mx s != 0) ((some (w64 ((w64 (n*m)).tdiv (mx s)))).bind fun x2=>some x2)=_
 rw[show(mx s != 0)=true by rw[Xeb];omega,Qa1 (x:=n*m),Xex hp.1,Qa1]
 rfl
include hs in
theorem Zc6 (k:List Qaa->Option (List Qaa×Qrg×Int)) (l:List Int) (hl:l.length<=20) (hb:∀m∈l,0<=m/\m<=s.Mass):∀(n i:Nat) (acc:List Qaa),(l.drop i).length<n->acc.length=i ->
  Qgl N s k l n acc i=k (acc++(l.drop i).map (Q8a s)):=by
 intro n
 induction n with
 |zero=>intro i _ h;cases h
 |succ n ih=>
  intro i acc h ha
  rw[Qgl]
  cases hd:l.drop i with
  |nil=>
   have:=Qca hd
   simp[show ¬((i:Int)<l.length) from by omega]
  |cons m q=>
   obtain⟨hg,hd',hlt⟩:=Qbn hd
   obtain⟨m0,m1⟩:=hb m (Xac hg)
   have a1:=hs.m1
   simp only[dlI hlt,Xak,Qb8 hg,Xaa,Zho (N:=N) hs hs.h0 (by have:=hs.h1;omega) m0 m1,Zho (N:=N) hs hs.s0 (by have:=hs.s1;omega) m0 m1,Zho (N:=N) hs hs.g0 (by have:=hs.g1;omega) m0 m1,chk]
   have hc:decide ((acc.length+[(⟨m,s.Heat*m/mx s,s.Silica*m/mx s,s.Gas*m/mx s⟩:Qaa)].length)*32<=140737488355328)=true:=by simp;omega
   rw[hc,Xak,w64S (i:=i) (by omega),
    ih (i+1) _ (dlt hd hd' h) (by simp[ha]),hd',Xan]
   rfl
include h hN in
theorem Zgj:Qj5 N ws=some true/\Qd6 N ws=some true:=by
 have hl:=h.l2
 have hc:Qe0 N ws=some (ws.any fun x=>!btw x 0 1000):=by
  unfold Qe0 Qgp Qb0
  refine Ql2 (F:=Qdk N ws fun _=>some (-1)) (k:=fun _=>some (-1)) (q:=Qiz N) (fun n y=>rfl) (fun x=>?_) rfl (by omega) (by omega)
  simp only[Qiz,Qm6,Qp6,Xaa]
 constructor
 ·unfold Qj5
  rw[hc,Xaa,Qz0]
  congr 1
  exact Xa6.2 fun x hx=>Qeb.2 (h.w x hx)
 have:Qd6 N ws=some (ws.any fun x=>decide (x>0)):=by
  unfold Qd6 Qgo Qb0
  exact Ql2 (F:=Qdj N ws fun _=>some (-1)) (k:=fun _=>some (-1)) (q:=Qm5 N) (fun n y=>rfl) (fun x=>rfl) rfl (by omega) (by omega)
 rw[this]
 congr 1
 obtain⟨x,hx,hp⟩:=h.some
 exact Xe1.2 ⟨x,hx,by simpa using hp⟩
include hs h hN in
theorem Zl0:Qnh N s ws=some (Qkz s ws,Qp2 s ws,0):=by
 have hl:=h.l2
 obtain⟨w1,w2⟩:=Zgj h hN
 have hK:=Qqg hs h
 have hlen:(Qkz s ws).length=ws.length:=by unfold Qkz;rw[Xb3,Qk0]
 unfold Qnh
 simp only[Qb0,Q2e,Qt1.2 hs,Xaa,Xb4,Xai,w1,w2,show decide ((ws.length:Int)>20)=false from by simp;omega,Zh3 h hs.m0 hs.m1 hN]
 refine(Zc6 hs _ (Qml s.Mass ws) (by rw[Qk0];exact hl) (Q02 h hs.m0 hs.m1) N 0 [] (by rw[Xap,Qk0];omega) rfl).trans ?_
 rw[Xap,Xa9]
 show(Qof N (Qkz s ws)).bind _=_
 rw[Zrb (by omega) hN,Xaa,Qu6 hK.v (by omega)]
 obtain⟨_,k1,k2,k3,k4,k5,k6,k7⟩:=hK
 have g1:=hs.h1
 have g2:=hs.s1
 have g3:=hs.g1
 have g4:=hs.m1
 have v:=Qpz (Qqg hs h).v
 have:=v.h0
 have:=v.s0
 have:=v.g0
 unfold Qp2 at *
 dsimp only at *
 rw[Qa1 (x:=s.Heat-_),Qa1 (x:=s.Silica-_),Qa1 (x:=s.Gas-_)]
 rfl
end
end
section
def zs:Qaa:=⟨0,0,0,0⟩
def Qkp (t:List GRow) (l:Int):GRow:=(getI t l).getD ⟨0,0,0,0,0⟩
def Qw2 (x:Qam) (s:Qaa):Int:=if s.Heat<x.Amount then s.Heat else x.Amount
def actE (t:List GRow) (x:Qam) (s:Qaa):List Qaa×Qbp×Int:=
 if x.Kind=3 then([⟨s.Mass,s.Heat-Qw2 x s,s.Silica,s.Gas⟩],⟨Qw2 x s,0,0,0⟩,0)
 else if x.Kind=4 then
  if x.Amount=0 then([(flG (Qkp t x.Level) s).Steam,(flG (Qkp t x.Level) s).Water],⟨0,0,0,(flG (Qkp t x.Level) s).Scale⟩,(flG (Qkp t x.Level) s).Steam.Mass)
  else([totS [(flG (Qkp t x.Level) s).Steam,(Qkz (flG (Qkp t x.Level) s).Water [1000-x.Amount,x.Amount]).getD 1 zs],(Qkz (flG (Qkp t x.Level) s).Water [1000-x.Amount,x.Amount]).getD 0 zs],
   ⟨(Qp2 (flG (Qkp t x.Level) s).Water [1000-x.Amount,x.Amount]).Heat,(Qp2 (flG (Qkp t x.Level) s).Water [1000-x.Amount,x.Amount]).Silica,(Qp2 (flG (Qkp t x.Level) s).Water [1000-x.Amount,x.Amount]).Gas,(flG (Qkp t x.Level) s).Scale⟩,(flG (Qkp t x.Level) s).Steam.Mass)
 else if x.Kind=5 then(Qkz s x.Weights,⟨(Qp2 s x.Weights).Heat,(Qp2 s x.Weights).Silica,(Qp2 s x.Weights).Gas,0⟩,0)
 else([s],⟨0,0,0,0⟩,0)
structure Zt3 (x:Qam) (s:Qaa) (a:List Qaa×Qbp×Int):Prop where
 v:∀y∈a.1,StrV y
 len:(a.1.length:Int)=outl x
 m:(totS a.1).Mass=s.Mass
 h:(totS a.1).Heat+a.2.1.Heat=s.Heat
 q:(totS a.1).Silica+a.2.1.Silica+a.2.1.Scale=s.Silica
 g:(totS a.1).Gas+a.2.1.Gas=s.Gas
 h0:0<=a.2.1.Heat
 q0:0<=a.2.1.Silica
 g0:0<=a.2.1.Gas
 c0:0<=a.2.1.Scale
 t0:0<=a.2.2
 t1:a.2.2<=1000000
structure Zp2 (x:Qam):Prop where
 k:1<=x.Kind/\x.Kind<=6
 well:x.Kind=1->x.From=[]
 a3:x.Kind=3->0<=x.Amount
 a4:x.Kind=4->0<=x.Amount/\x.Amount<=1000
 w5:x.Kind=5->WtsV x.Weights
theorem Quy {x:Qam}(h:Qpv x=true):Zp2 x:=by
 unfold Qpv at h
 simp only[Xaq] at h
 obtain⟨⟨⟨⟨⟨h1,_⟩,_⟩,h4⟩,h5⟩,h6⟩:=h
 refine⟨Qeb.1 h1,fun e=>?_,fun e=>?_,fun e=>?_,fun e=>?_⟩
 ·rw[e] at h4
  obtain⟨_,h7⟩:=Qeb.1 h4
  rw[Xaz rfl] at h7
  exact Xgm.1 (by omega)
 ·rw[e] at h5
  have:=Qeb.1 h5
  exact this.1
 ·rw[e] at h5
  have:=Qeb.1 h5
  simpa using this
 rw[e] at h6
 exact Zqv (by simpa using h6)
theorem Zgn {a:Int}(h0:0<a) (h1:a<=1000):WtsV [1000-a,a]:=
 ⟨by simp,by simp,fun x hx=>by simp at hx;rcases hx with rfl |rfl<;>omega,⟨a,by simp,h0⟩⟩
theorem Q4o {s:Qaa}{a b:Int}:∃p q,Qkz s [a,b]=[p,q]:=by
 have:(Qkz s [a,b]).length=2:=by unfold Qkz;rw[Xb3,Qk0];rfl
 match h:Qkz s [a,b],this with
 |[p,q],_=>exact⟨p,q,rfl⟩
theorem Zb9 {t:List GRow}(ht:tabB t=true) {x:Qam}(hx:Zp2 x) (hl:0<=x.Level/\x.Level<=(t.length:Int)-1) {s:Qaa}(hs:StrV s):Zt3 x s (actE t x s):=by
 have hs':=hs
 obtain⟨a1,a2,a3,a4,a5,a6,a7,a8⟩:=hs'
 unfold actE
 by_cases h3:x.Kind=3
 ·rw[Xaz h3]
  have hc:0<=Qw2 x s/\Qw2 x s<=s.Heat:=by
   have:=hx.a3 h3
   unfold Qw2;split<;>omega
  refine⟨fun y hy=>?_,?_,?_,?_,?_,?_,?_,?_,?_,?_,?_,?_⟩
  ·simp at hy;subst hy
   exact⟨a1,a2,by dsimp only;omega,by dsimp only;omega,a5,a6,a7,a8⟩
  ·simp[outl,h3]
  all_goals (try rw[Qqs])
  all_goals (dsimp only;omega)
 rw[Xat h3]
 by_cases h4:x.Kind=4
 ·rw[Xaz h4]
  have hrow:=(Zg3 ht (Qeb.2 hl)).2
  have hk:=Zbp (r:=Qkp t x.Level) hrow hs
  generalize flG (Qkp t x.Level) s=p at hk
  obtain⟨k1,k2,k3,k4,k5,k6,k7,k8⟩:=hk
  have k1':=k1
  obtain⟨b1,b2,b3,b4,b5,b6,b7,b8⟩:=k1'
  have k2':=k2
  obtain⟨c1,c2,c3,c4,c5,c6,c7,c8⟩:=k2'
  by_cases h0:x.Amount=0
  ·rw[Xaz h0]
   refine⟨fun y hy=>?_,?_,?_,?_,?_,?_,?_,?_,?_,?_,?_,?_⟩
   ·simp at hy;rcases hy with rfl |rfl<;>assumption
   ·simp[outl,h4]
   all_goals (try rw[Qrn,Qqs])
   all_goals (dsimp only;omega)
  rw[Xat h0]
  have ha:=hx.a4 h4
  have hw:=Zgn (a:=x.Amount) (by omega) ha.2
  obtain⟨u,v,hp⟩:=Q4o (s:=p.Water) (a:=1000-x.Amount) (b:=x.Amount)
  have hK:=Qqg k2 hw
  rw[hp] at hK ⊢
  simp only[show([u,v]:List Qaa).getD 1 zs=v from rfl,show([u,v]:List Qaa).getD 0 zs=u from rfl]
  generalize Qp2 p.Water [1000-x.Amount,x.Amount]=L at hK ⊢
  obtain⟨d0,d1,d2,d3,d4,d5,d6,d7⟩:=hK
  have hu:=d0 u (by simp)
  have hv:=d0 v (by simp)
  rw[Qrn,Qqs] at d1 d2 d3 d4
  dsimp only at d1 d2 d3 d4
  obtain⟨e1,e2,e3,e4,e5,e6,e7,e8⟩:=hu
  obtain⟨f1,f2,f3,f4,f5,f6,f7,f8⟩:=hv
  have et:totS [p.Steam,v]=⟨p.Steam.Mass+v.Mass,p.Steam.Heat+v.Heat,p.Steam.Silica+v.Silica,p.Steam.Gas+v.Gas⟩:=by rw[Qrn,Qqs]
  rw[et]
  refine⟨fun y hy=>?_,?_,?_,?_,?_,?_,?_,?_,?_,?_,?_,?_⟩
  ·simp at hy
   rcases hy with rfl |rfl
   ·refine⟨?_,?_,?_,?_,?_,?_,?_,?_⟩<;>dsimp only<;>omega
   exact⟨e1,e2,e3,e4,e5,e6,e7,e8⟩
  ·simp[outl,h4]
  all_goals (try rw[Qrn,Qqs])
  all_goals (dsimp only;omega)
 rw[Xat h4]
 by_cases h5:x.Kind=5
 ·rw[Xaz h5]
  have hw:=hx.w5 h5
  have hK:=Qqg hs hw
  have hlen:(Qkz s x.Weights).length=x.Weights.length:=by unfold Qkz;rw[Xb3,Qk0]
  generalize Qkz s x.Weights=o at hK hlen ⊢
  generalize Qp2 s x.Weights=L at hK ⊢
  obtain⟨d0,d1,d2,d3,d4,d5,d6,d7⟩:=hK
  refine⟨d0,by simp[outl,h5,hlen],d1,d2,?_,d4,d5,d6,d7,?_,?_,?_⟩<;>dsimp only<;>omega
 rw[Xat h5]
 refine⟨fun y hy=>?_,?_,?_,?_,?_,?_,?_,?_,?_,?_,?_,?_⟩
 ·simp at hy;subst hy;exact hs
 ·simp[outl,h4,h5]
 all_goals (try rw[Qqs])
 all_goals (dsimp only;omega)
def Qkl (o:List (List Qaa)) (p:Qhm):Qaa:=((o.getD p.Element.toNat []).getD p.Outlet.toNat zs)
def insE (o:List (List Qaa)) (ws:List Qaa) (x:Qam):List Qaa:=if x.Kind=1 then ws.take 1 else x.From.map (Qkl o)
def Q4r (t:List GRow):List (Qam×Int)->List Qaa->List (List Qaa)->List Qbp->List Int->Int->Nat⊕(List (List Qaa)×List Qbp×List Int×Int)
 |[],_,o,ls,ss,y=>.inr (o,ls,ss,y)
 |(x,d)::l,ws,o,ls,ss,y=>
  if (totS (insE o ws x)).Mass>widI x d then .inl o.length
  else Q4r t l (if x.Kind=1 then ws.drop 1 else ws) (o++[(actE t x (totS (insE o ws x))).1]) (ls++[(actE t x (totS (insE o ws x))).2.1]) (ss++[d+(actE t x (totS (insE o ws x))).2.1.Scale]) (y+(actE t x (totS (insE o ws x))).2.2)
def Qli (n:GNet) (i:Nat):List (Int×Int):=(n.Elements.take i).flatMap fun x=>x.From.map pq
def wcn (n:GNet) (i:Nat):Nat:=((n.Elements.take i).filter fun x=>decide (x.Kind=1)).length
structure FedV (n:GNet) (ws:List Qaa):Prop where
 len:ws.length=wcn n n.Elements.length
 v:∀s∈ws,StrV s
 m:(totS ws).Mass<=1000000
 g:(totS ws).Gas<=1000000000
structure InvT (n:GNet) (ws:List Qaa) (i:Nat) (o:List (List Qaa)) (ls:List Qbp):Prop where
 lo:o.length=i
 ll:ls.length=i
 rows:∀(k:Nat) y r,n.Elements[k]? = some y->o[k]? = some r->(r.length:Int)=outl y
 v:∀r∈o,∀s∈r,StrV s
 m:Qjx (fun s=>s.Mass) (Qli n i) (Qkq 0 o)=(totS (ws.take (wcn n i))).Mass
 h:Qjx (fun s=>s.Heat) (Qli n i) (Qkq 0 o)+(ls.map fun l=>l.Heat).sum=(totS (ws.take (wcn n i))).Heat
 q:Qjx (fun s=>s.Silica) (Qli n i) (Qkq 0 o)+(ls.map fun l=>l.Silica).sum+(ls.map fun l=>l.Scale).sum=(totS (ws.take (wcn n i))).Silica
 g:Qjx (fun s=>s.Gas) (Qli n i) (Qkq 0 o)+(ls.map fun l=>l.Gas).sum=(totS (ws.take (wcn n i))).Gas
 l0:∀l∈ls,0<=l.Heat/\0<=l.Silica/\0<=l.Gas/\0<=l.Scale
theorem Q5w (n:GNet) (ws:List Qaa):InvT n ws 0 [] []:=
 ⟨rfl,rfl,fun k y r _ h=>by simp at h,fun r h=>by simp at h,by simp[Qjx,Qkq,wcn,totS],by simp[Qjx,Qkq,wcn,totS],by simp[Qjx,Qkq,wcn,totS],by simp[Qjx,Qkq,wcn,totS],fun l h=>by simp at h⟩
theorem Qpo {α:Type}{l:List α}{i:Nat}{x:α}(h:l[i]? = some x):l.take (i+1)=l.take i++[x]:=by rw[Xfe,h];rfl
theorem Q7v {n:GNet}{i:Nat}{x:Qam}(h:n.Elements[i]? = some x):Qli n (i+1)=Qli n i++x.From.map pq:=by
 unfold Qli
 rw[Qpo h,List.flatMap_append]
 simp
theorem Qr7 {n:GNet}{i:Nat}{x:Qam}(h:n.Elements[i]? = some x):wcn n (i+1)=wcn n i+if x.Kind=1 then 1 else 0:=by
 unfold wcn
 rw[Qpo h,Xe9,Xb1]
 by_cases hk:x.Kind=1<;>simp[hk]
theorem Zgl {n:GNet}{i:Nat}:wcn n i<=wcn n n.Elements.length:=by
 unfold wcn
 rw[Xcv]
 exact((List.take_sublist i n.Elements).filter _).length_le
theorem Zcs (n:GNet):Qli n n.Elements.length=Q7w n:=by unfold Qli Q7w;rw[Xcv]
section
variable {n : GNet} (hv : NetV n) {ws : List Qaa} (hf : FedV n ws) {i : Nat} {o : List (List Qaa)} {ls : List Qbp} (hI : InvT n ws i o ls) {x : Qam} (hx : n.Elements[i]? = some x)
include hv hI hx in
theorem Qvd {p:Qhm}(hp:p∈x.From):(pq p,Qkl o p)∈Qkq 0 o/\StrV (Qkl o p)/\(∃r,o[p.Element.toNat]? = some r/\r[p.Outlet.toNat]? = some (Qkl o p)):=by
 obtain⟨h1,h2,y,h3,h4,h5,_⟩:=hv.port i x p hx hp
 have hlt:p.Element.toNat<o.length:=by rw[hI.lo];omega
 have hr:o[p.Element.toNat]? = some (o[p.Element.toNat]):=Xab hlt
 have hl:=hI.rows _ y _ h3 hr
 have hlt2:p.Outlet.toNat<(o[p.Element.toNat]).length:=by omega
 have hs:(o[p.Element.toNat])[p.Outlet.toNat]? = some ((o[p.Element.toNat])[p.Outlet.toNat]):=Xab hlt2
 have e:Qkl o p=(o[p.Element.toNat])[p.Outlet.toNat]:=by
  unfold Qkl
  rw[Xaj,Xaj,hr,Xbd,hs,Xbd]
 rw[e]
 refine⟨Qrv.2 ⟨by simpa using h1,h4,_,?_,hs⟩,hI.v _ (Xb2 hlt) _ (Xb2 hlt2),_,hr,hs⟩
 rw[show(p.Element-((0:Nat):Int)).toNat=p.Element.toNat by simp]
 exact hr
include hv hx in
theorem Zde:(x.From.map pq).Nodup/\∀p∈x.From.map pq,p∉Qli n i:=by
 have hd:=hv.dist
 have hi:=(Xad.1 hx).1
 have e:n.Elements=n.Elements.take i++x::n.Elements.drop (i+1):=by
  rw[<-Xcf i n.Elements]
  congr 1
  ·simp
  rw[Xcf,Xbe hi]
  rw[Xab hi] at hx
  cases hx
  rfl
 rw[e,List.flatMap_append,Xgl,Xet,Xet] at hd
 obtain⟨_,⟨h2,_,_⟩,h3⟩:=hd
 exact⟨h2,fun p hp hu=>h3 p hu p (Xc0 _ hp) rfl⟩
include hv hI hx in
theorem Qx7 (f:Qaa->Int):Qjx f (Qli n (i+1)) (Qkq 0 o)=Qjx f (Qli n i) (Qkq 0 o)-((x.From.map (Qkl o)).map f).sum:=by
 obtain⟨h1,h2⟩:=Zde hv hx
 rw[Q7v hx,Qys (V:=x.From.map pq++Qli n i) (fun y _=>by simp[or_comm])]
 refine Qyr f (Qzb o 0) _ _ _ (by simp) (fun j p s hp hs=>?_) h1 h2
 rw[Xaw,Xc3] at hp hs
 obtain⟨a,ha,rfl⟩:=hp
 obtain⟨b,hb,rfl⟩:=hs
 rw[ha] at hb
 cases hb
 exact(Qvd hv hI hx (Xac ha)).1
include hv in
theorem Zme (f:Qaa->Int) (r:List Qaa) (hlo:o.length=i):Qjx f (Qli n (i+1)) (Qkq 0 (o++[r]))=Qjx f (Qli n (i+1)) (Qkq 0 o)+(r.map f).sum:=by
 rw[Qwi,Q5j,Xar,hlo,Q57]
 congr 1
 refine Q5i f (fun p hp=>?_) r 0
 unfold Qli at hp
 obtain⟨y,hy,hp⟩:=List.mem_flatMap.1 hp
 obtain⟨q,hq,rfl⟩:=Xba.1 hp
 obtain⟨k,hk,e⟩:=Xey.1 hy
 have:=(hv.port k y q (by rw[<-e];exact Xab (by omega)) hq).2.1
 intro he
 have:(pq q).1=q.Element:=rfl
 omega
include hI in
theorem Zhl (f:Qaa->Int) (hf0:∀s,StrV s->0<=f s) (U:List (Int×Int)):0<=Qjx f U (Qkq 0 o):=by
 refine Qwd fun y hy=>?_
 obtain⟨⟨a,b⟩,s⟩:=y
 obtain⟨_,_,r,h1,h2⟩:=Qrv.1 hy
 exact hf0 _ (hI.v r (Xac h1) s (Xac h2))
include hf in
theorem Zax (k:Nat):(totS (ws.take k)).Mass<=1000000/\(totS (ws.take k)).Gas<=1000000000:=by
 have h:=Q7x (ws.take k) (ws.drop k)
 rw[Xcf] at h
 have hm:=hf.m
 have hg:=hf.g
 rw[h] at hm hg
 have hd:=Qpz fun s hs=>hf.v s (List.mem_of_mem_drop (i:=k) hs)
 have:=hd.m0
 have:=hd.g0
 dsimp only at hm hg
 omega
theorem Qkc {α:Type}(f:α->Int):∀(l:List α),(∀x∈l,0<=f x)->0<=(l.map f).sum
 |[],_=>by simp
 |x::l,h=>by
  have h1:=Qkc f l fun y hy=>h y (Xal x hy)
  have h2:=h x Xb9
  simp only[Xax,Xb0]
  omega
include hv hf hI hx in
theorem Zpx:(∀s∈insE o (ws.drop (wcn n i)) x,StrV s)/\StrV (totS (insE o (ws.drop (wcn n i)) x)):=by
 have hxm:=Xac hx
 by_cases h1:x.Kind=1
 ·have e:insE o (ws.drop (wcn n i)) x=(ws.drop (wcn n i)).take 1:=by unfold insE;rw[Xaz h1]
  rw[e]
  have hw:=Qr7 hx
  rw[Xaz h1] at hw
  have hle:=Zgl (n:=n) (i:=i+1)
  have hlt:wcn n i<ws.length:=by rw[hf.len];omega
  rw[Xbe hlt]
  have hs:=hf.v _ (Xb2 hlt)
  rw[Xg3,Xh3,Qqs]
  exact⟨fun s h=>by rw[Xbq] at h;rw[h];exact hs,hs⟩
 have e:insE o (ws.drop (wcn n i)) x=x.From.map (Qkl o):=by unfold insE;rw[Xat h1]
 rw[e]
 have hall:∀s∈x.From.map (Qkl o),StrV s:=fun s hs=>by
  obtain⟨p,hp,rfl⟩:=Xba.1 hs
  exact(Qvd hv hI hx hp).2.1
 refine⟨hall,Zlp hall ?_ ?_⟩
 ·have h2:=Qx7 hv hI hx (fun s=>s.Mass)
  have h3:=Zhl hI (fun s=>s.Mass) (fun s hs=>hs.m0) (Qli n (i+1))
  have h4:=(Zax hf (wcn n i)).1
  rw[<-hI.m] at h4
  show((x.From.map (Qkl o)).map fun s=>s.Mass).sum<=_
  omega
 have h2:=Qx7 hv hI hx (fun s=>s.Gas)
 have h3:=Zhl hI (fun s=>s.Gas) (fun s hs=>hs.g0) (Qli n (i+1))
 have h4:=(Zax hf (wcn n i)).2
 have h5:=Qkc (fun l:Qbp=>l.Gas) ls fun l hl=>(hI.l0 l hl).2.2.1
 rw[<-hI.g] at h4
 show((x.From.map (Qkl o)).map fun s=>s.Gas).sum<=_
 omega
include hv hf hI hx in
theorem Qxc (f:Qaa->Int) (hf1:∀l m:List Qaa,((l++m).map f).sum=(l.map f).sum+(m.map f).sum) (r:List Qaa) :
  Qjx f (Qli n (i+1)) (Qkq 0 (o++[r]))=Qjx f (Qli n i) (Qkq 0 o)+((ws.take (wcn n (i+1))).map f).sum-((ws.take (wcn n i)).map f).sum-((insE o (ws.drop (wcn n i)) x).map f).sum+(r.map f).sum:=by
 rw[Zme hv f r hI.lo,Qx7 hv hI hx f]
 by_cases h1:x.Kind=1
 ·have e:insE o (ws.drop (wcn n i)) x=(ws.drop (wcn n i)).take 1:=by unfold insE;rw[Xaz h1]
  have hw:=Qr7 hx
  rw[Xaz h1] at hw
  have hle:=Zgl (n:=n) (i:=i+1)
  have hlt:wcn n i<ws.length:=by rw[hf.len];omega
  have hfr:=(Quy (hv.alone x (Xac hx))).well h1
  rw[e,hfr,hw,Qpo (Xab hlt),hf1,Xbe hlt]
  simp only[Xbz,Xhw,Xg3,Xh3,Xax,Xb0]
  omega
 have e:insE o (ws.drop (wcn n i)) x=x.From.map (Qkl o):=by unfold insE;rw[Xat h1]
 have hw:=Qr7 hx
 rw[Xat h1] at hw
 rw[e,hw,Xdq]
 omega
include hv hf hI hx in
theorem Zbi {a:List Qaa×Qbp×Int}(ha:Zt3 x (totS (insE o (ws.drop (wcn n i)) x)) a):InvT n ws (i+1) (o++[a.1]) (ls++[a.2.1]):=by
 obtain⟨k1,k2,k3,k4,k5,k6,k7,k8,k9,k10,_,_⟩:=ha
 have sa:∀f:Qaa->Int,∀l m:List Qaa,((l++m).map f).sum=(l.map f).sum+(m.map f).sum:=fun f l m=>by simp
 refine⟨by simp[hI.lo],by simp[hI.ll],fun k y r hy hr=>?_,fun r hr s hs=>?_,?_,?_,?_,?_,fun l hl=>?_⟩
 ·by_cases hk:k<i
  ·rw[Xas (by rw[hI.lo];exact hk)] at hr
   exact hI.rows k y r hy hr
  rw[Xam (by rw[hI.lo];omega),hI.lo] at hr
  have:k=i:=by
   have:=(Xad.1 hr).1
   simp at this
   omega
  subst this
  rw[hx] at hy
  cases hy
  simp at hr
  subst hr
  exact k2
 ·rcases Xby.1 hr with hr |hr
  ·exact hI.v r hr s hs
  simp at hr;subst hr;exact k1 s hs
 ·rw[Qxc hv hf hI hx _ (sa _),hI.m]
  have e1:(a.1.map fun s=>s.Mass).sum=(totS a.1).Mass:=rfl
  have e2:((insE o (ws.drop (wcn n i)) x).map fun s=>s.Mass).sum=(totS (insE o (ws.drop (wcn n i)) x)).Mass:=rfl
  have e3:∀k,((ws.take k).map fun s=>s.Mass).sum=(totS (ws.take k)).Mass:=fun _=>rfl
  rw[e1,e2,e3,e3]
  omega
 ·rw[Qxc hv hf hI hx _ (sa _)]
  have e1:(a.1.map fun s=>s.Heat).sum=(totS a.1).Heat:=rfl
  have e2:((insE o (ws.drop (wcn n i)) x).map fun s=>s.Heat).sum=(totS (insE o (ws.drop (wcn n i)) x)).Heat:=rfl
  have e3:∀k,((ws.take k).map fun s=>s.Heat).sum=(totS (ws.take k)).Heat:=fun _=>rfl
  have h:=hI.h
  rw[e1,e2,e3,e3,Xdy,Xgt]
  simp only[Xax,Xbz,Xb0,Xhw]
  omega
 ·rw[Qxc hv hf hI hx _ (sa _)]
  have e1:(a.1.map fun s=>s.Silica).sum=(totS a.1).Silica:=rfl
  have e2:((insE o (ws.drop (wcn n i)) x).map fun s=>s.Silica).sum=(totS (insE o (ws.drop (wcn n i)) x)).Silica:=rfl
  have e3:∀k,((ws.take k).map fun s=>s.Silica).sum=(totS (ws.take k)).Silica:=fun _=>rfl
  have h:=hI.q
  rw[e1,e2,e3,e3,Xdy,Xgt,Xdy,Xgt]
  simp only[Xax,Xbz,Xb0,Xhw]
  omega
 ·rw[Qxc hv hf hI hx _ (sa _)]
  have e1:(a.1.map fun s=>s.Gas).sum=(totS a.1).Gas:=rfl
  have e2:((insE o (ws.drop (wcn n i)) x).map fun s=>s.Gas).sum=(totS (insE o (ws.drop (wcn n i)) x)).Gas:=rfl
  have e3:∀k,((ws.take k).map fun s=>s.Gas).sum=(totS (ws.take k)).Gas:=fun _=>rfl
  have h:=hI.g
  rw[e1,e2,e3,e3,Xdy,Xgt]
  simp only[Xax,Xbz,Xb0,Xhw]
  omega
 rcases Xby.1 hl with hl |hl
 ·exact hI.l0 l hl
 simp at hl;subst hl;exact⟨k7,k8,k9,k10⟩
include hv hf hI hx in
theorem Zbj:Zt3 x (totS (insE o (ws.drop (wcn n i)) x)) (actE n.Table x (totS (insE o (ws.drop (wcn n i)) x))):=
 Zb9 hv.tab (Quy (hv.alone x (Xac hx))) (hv.level x (Xac hx)) (Zpx hv hf hI hx).2
end
end
section
def ofL (k:Int):Nat->List Qam->List Int
 |_,[]=>[]
 |i,x::l=>if x.Kind=k then(i:Int)::ofL k (i+1) l else ofL k (i+1) l
theorem Qyv (k:Int):∀(l:List Qam) (i:Nat),(ofL k i l).length=(l.filter fun x=>decide (x.Kind=k)).length
 |[],_=>rfl
 |x::l,i=>by
  rw[ofL,Xfn]
  by_cases h:x.Kind=k
  ·rw[Xaz h,Xaz (by simpa using h),Xa5,Xa5,Qyv k l]
  rw[Xat h,Xat (by simpa using h),Qyv k l]
theorem Q8d (k:Int):∀(l:List Qam) (i:Nat),∀z∈ofL k i l,(i:Int)<=z/\z<(i:Int)+l.length
 |[],_,z,h=>by simp[ofL] at h
 |x::l,i,z,h=>by
  rw[ofL] at h
  simp only[Xa5]
  by_cases hk:x.Kind=k
  ·rw[Xaz hk] at h
   rcases Xa7.1 h with rfl |h
   ·omega
   have:=Q8d k l (i+1) z h;omega
  rw[Xat hk] at h
  have:=Q8d k l (i+1) z h;omega
theorem Q0z (k:Int):∀(l m:List Qam) (i:Nat),ofL k i (l++m)=ofL k i l++ofL k (i+l.length) m
 |[],m,i=>by simp[ofL]
 |x::l,m,i=>by
  rw[Xda,ofL,ofL,Q0z k l m (i+1),Xa5,show i+1+l.length=i+(l.length+1) by omega]
  by_cases h:x.Kind=k
  ·rw[Xaz h,Xaz h,Xda]
  rw[Xat h,Xat h]
section
variable {N : Nat} {n : GNet} (hs : Qth n) (hN : 1001 <= N)
include hs in
theorem Zru (k:Int) (c:List Int->Option (List Int)):∀(m i:Nat) (acc:List Int),(n.Elements.drop i).length<m->acc.length<=i->Qfy N n k c m acc i=c (acc++ofL k i (n.Elements.drop i)):=by
 intro m
 induction m with
 |zero=>intro i _ h;cases h
 |succ m ih=>
  intro i acc h ha
  rw[Qfy]
  cases hd:n.Elements.drop i with
  |nil=>
   have:=Qca hd
   simp[show ¬((i:Int)<n.Elements.length) from by omega,ofL]
  |cons x l=>
   obtain⟨hg,hd',hlt⟩:=Qbn hd
   have e0:=hs.e
   simp only[dlI hlt,Xak,Qb8 hg,Xaa]
   rw[w64S (i:=i) (by omega),ofL]
   by_cases hk:x.Kind=k
   ·rw[show(x.Kind==k)=true by simpa using hk,Xak,Xaz hk]
    simp only[chk]
    rw[show decide ((acc.length+[(i:Int)].length)*8<=140737488355328)=true by simp;omega,Xak,ih (i+1) _ (dlt hd hd' h) (by simp;omega),hd',Xan]
    rfl
   rw[show(x.Kind==k)=false by simpa using hk,Xai,Xat hk,ih (i+1) _ (dlt hd hd' h) (by omega),hd']
include hs hN in
theorem Zpv (k:Int):Qlx N n k=some (ofL k 0 n.Elements):=by
 have e0:=hs.e
 unfold Qlx
 simp only[Qb0]
 refine(Zru hs k _ N 0 [] (by simp;omega) (by simp)).trans ?_
 rw[Xap,Xa9]
theorem Zdd (P S:List Int) (p:Int) (hp:p∉P) (hl:P.length<=1000) (k:Unit->Option Int):∀(m i:Nat),P.length-i<m->i<=P.length->Qd4 N (P++p::S) k p m i=some (P.length:Int):=by
 intro m
 induction m with
 |zero=>intro i h;cases h
 |succ m ih=>
  intro i h hi
  rw[Qd4]
  rw[show decide ((i:Int)<((P++p::S).length:Int))=true by simp;omega,Xak]
  by_cases hlt:i<P.length
  ·have hg:(P++p::S)[i]? = some P[i]:=by rw[Xas hlt,Xab hlt]
   rw[Qb8 hg,Xaa,show(p==P[i])=false by rw[Xct];intro e;exact hp (e▸Xb2 hlt),Xai,w64S (i:=i) (by omega)]
   exact ih (i+1) (by omega) (by omega)
  have e:i=P.length:=by omega
  subst e
  have hg:(P++p::S)[P.length]? = some p:=by rw[Xam (Xay _)];simp
  rw[Qb8 hg,Xaa,Xb8,Xak]
include hs hN in
theorem Zqx {i:Nat}{x:Qam}(hx:n.Elements[i]? = some x) (h1:x.Kind=1):Qhh N (ofL 1 0 n.Elements) i=some (wcn n i:Int):=by
 have hi:=(Xad.1 hx).1
 have e0:=hs.e
 have e:n.Elements=n.Elements.take i++x::n.Elements.drop (i+1):=by
  have:n.Elements.drop i=x::n.Elements.drop (i+1):=by
   rw[Xbe hi]
   rw[Xab hi] at hx
   cases hx
   rfl
  rw[<-this,Xcf]
 have hlt:(n.Elements.take i).length=i:=by rw[Xdk];omega
 have e2:ofL 1 0 n.Elements=ofL 1 0 (n.Elements.take i)++(i:Int)::ofL 1 (i+1) (n.Elements.drop (i+1)):=by
  have e3:ofL 1 0 n.Elements=ofL 1 0 (n.Elements.take i++x::n.Elements.drop (i+1)):=Xek (ofL 1 0) e
  rw[e3,Q0z,hlt,ofL,Xaz h1,Xar]
 have hlen:(ofL 1 0 (n.Elements.take i)).length=wcn n i:=Qyv 1 _ 0
 have hb:wcn n i<=18:=by
  rw[<-hlen,Qyv]
  have:=List.length_filter_le (fun x:Qam=>decide (x.Kind=1)) (n.Elements.take i)
  omega
 unfold Qhh
 simp only[Qb0]
 rw[e2]
 have:=Zdd (N:=N) (ofL 1 0 (n.Elements.take i)) (ofL 1 (i+1) (n.Elements.drop (i+1))) (i:Int) (fun hm=>by
  have:=Q8d 1 _ 0 _ hm
  omega) (by omega) (fun _=>some (-1)) N 0 (by omega) (Xbg _)
 rw[hlen] at this
 exact this
theorem Qst (k:List Qaa->Option (List Qaa)):∀(q y:List Qaa),y.length+q.length<=1000->Qa3 N k q y=k (y++q)
 |[],y,_=>by simp[Qa3]
 |x::q,y,h=>by
  have hc:decide ((y.length+[x].length)*32<=140737488355328)=true:=by simp at h ⊢;omega
  rw[Qa3]
  simp only[chk]
  rw[hc,Xak,Qst k q _ (by simp at h ⊢;omega)]
  simp
end
section
variable {N : Nat} {n : GNet} (hs : Qth n) (hN : 1001 <= N) (hv : NetV n) {ws : List Qaa} (hf : FedV n ws) {i : Nat} {o : List (List Qaa)} {ls : List Qbp} (hI : InvT n ws i o ls) {x : Qam} (hx : n.Elements[i]? = some x)
include hv hI hx in
theorem Zig (hfr:x.From.length<=1000) (R:List (List Qaa)):∀(m j:Nat),(x.From.drop j).length<m->Qe6 N x (o++R) m j=some ((x.From.drop j).map (Qkl o)):=by
 intro m
 induction m with
 |zero=>intro j h;cases h
 |succ m ih=>
  intro j h
  rw[Qe6]
  cases hd:x.From.drop j with
  |nil=>
   have:=Qca hd
   simp[show ¬((j:Int)<x.From.length) from by omega]
  |cons p l=>
   obtain⟨hg,hd',hlt⟩:=Qbn hd
   have hpm:=Xac hg
   obtain⟨p1,_,_,_,p4,_,_⟩:=hv.port i x p hx hpm
   obtain⟨_,_,r,hr,hr2⟩:=Qvd hv hI hx hpm
   have g1:getI (o++R) p.Element=some r:=by
    unfold getI
    rw[Xaz p1,Xas (Xad.1 hr).1,hr]
   have g2:getI r p.Outlet=some (Qkl o p):=by
    unfold getI
    rw[Xaz p4,hr2]
   simp only[dlI hlt,Xak,Qb8 hg,Xaa,g1,g2]
   rw[w64S (i:=j) (by omega),ih (j+1) (dlt hd hd' h),hd']
   rfl
include hs hN hv hf hI hx in
theorem Zr2 (R:List (List Qaa)) (L:List Qbp) (S:List Int) (y:Int):Qdc N n.Table n.Elements (o++R) L S ws y i=some (insE o (ws.drop (wcn n i)) x):=by
 have hxs:=hs.x x (Xac hx)
 have hS:Qjq N n.Table n.Elements (o++R) L S ws y i=some (insE o (ws.drop (wcn n i)) x):=by
  unfold Qjq insE
  rw[Qb8 hx,Xaa]
  by_cases h1:x.Kind=1
  ·rw[show(x.Kind==1)=true by simpa using h1,Xak,Xaz h1]
   have hw:=Qr7 hx
   rw[Xaz h1] at hw
   have hle:=Zgl (n:=n) (i:=i+1)
   have hlt:wcn n i<ws.length:=by rw[hf.len];omega
   rw[Zpv hs hN 1,Xaa,Zqx hs hN hx h1,Xaa,Qb8 (Xab hlt),Xaa,Xbe hlt]
   rfl
  rw[show(x.Kind==1)=false by simpa using h1,Xai,Xat h1]
  have:=Zig (N:=N) hv hI hx (by omega) R N 0 (by simp;omega)
  rw[Xap] at this
  exact this
 unfold Qdc Qdp
 simp only[Qb0,hS,Xaa]
 have hlen:(insE o (ws.drop (wcn n i)) x).length<=100:=by
  unfold insE
  split
  ·rw[Xdk];omega
  rw[Xb3];omega
 rw[Qst _ _ _ (by simp;omega)]
 rfl
end
theorem Qw8 {α:Type}{l:List α}{i:Nat}{x:α}(h:l[i]? = some x):l.set i x=l:=by
 obtain⟨h1,h2⟩:=Xad.1 h
 subst h2
 exact List.set_getElem_self h1
section
variable {N : Nat} {n : GNet} (hN : 1001 <= N) (hv : NetV n) (ht : n.Table.length <= 1000) {i : Nat} {x : Qam} (hx : n.Elements[i]? = some x) {s : Qaa} (hst : StrV s) {D nW : Nat} {ws : List Qaa} {y : Int} {O : List (List Qaa)} {Ls : List Qbp} {Ss : List Int} {d : Int}
 (hlo:i<D) (hLs:Ls[i]? = some ⟨0,0,0,0⟩) (hSs:Ss[i]? = some d) (hd0:0<=d) (hd1:d<=1000000000000000) (hO:∃r,O[i]? = some r) (hy0:0<=y) (hy1:y<=1000000000)
include hN hst hlo in
theorem Q42 {wts:List Int}(hw:WtsV wts) {l0:Qbp}(hL:Ls[i]? = some l0) (hl:i<Ls.length):Qhp N i s wts n.Table n.Elements D D nW ws y O Ls Ss=some (Qkz s wts,Ls.set i ⟨(Qp2 s wts).Heat,(Qp2 s wts).Silica,(Qp2 s wts).Gas,l0.Scale⟩):=by
 have c1:(decide ((0:Int)<=(i:Int))&&decide (i<D))=true:=by simp;omega
 have e:∀q:Qbp,(Ls.set i q)[i]? = some q:=fun q=>Xd0 hl
 unfold Qhp
 rw[Zl0 hst hw hN]
 simp only[Xaa,chk,c1,Xak,Xbf,hL,e,List.set_set]
include hN hv ht hx hst hlo hLs hSs hd0 hd1 hy0 hy1 in
theorem Q73 (hln:i<Ls.length) (h4:x.Kind=4):Qhj N i s n.Table n.Elements D D D ws y O Ls Ss=some ((actE n.Table x s).1,y+(actE n.Table x s).2.2,Ls.set i (actE n.Table x s).2.1,Ss.set i (d+(actE n.Table x s).2.1.Scale)):=by
 have hxm:=Xac hx
 have hA:=Quy (hv.alone x hxm)
 have hlv:=hv.level x hxm
 have hrow:=(Zg3 hv.tab (Qeb.2 hlv)).2
 have hk:=Zbp (r:=Qkp n.Table x.Level) hrow hst
 have hK:=Zb9 hv.tab hA hlv hst
 have c1:(decide ((0:Int)<=(i:Int))&&decide (i<D))=true:=by simp;omega
 have ef:Zbo n.Table x.Level s=(flG (Qkp n.Table x.Level) s,0):=by
  unfold Zbo Qkp
  rw[hv.tab,Qt1.2 hst,Qeb.2 hlv];rfl
 have hq1:=hst.s1
 have hm1:=hst.m1
 have cv:=Qpz hK.v
 have:=cv.s0
 unfold Qhj
 simp only[Qb8 hx,Xaa,Zmp hN ht,ef,chk,c1,Xak,Xbf,hLs,hSs]
 by_cases h0:x.Amount=0
 ·have ha:actE n.Table x s=([(flG (Qkp n.Table x.Level) s).Steam,(flG (Qkp n.Table x.Level) s).Water],⟨0,0,0,(flG (Qkp n.Table x.Level) s).Scale⟩,(flG (Qkp n.Table x.Level) s).Steam.Mass):=by
   unfold actE
   rw[Xat (show ¬x.Kind=3 by omega),Xaz h4,Xaz h0]
  rw[ha] at hK
  obtain⟨_,_,_,_,cs,_,_,cq,_,cc,t0,t1⟩:=hK
  dsimp only at t0 t1 cs cc cq
  have:=hk.km
  have:=hk.wa.m0
  have:=hk.ks
  have:=hk.wa.s0
  rw[ha,show(x.Amount==0)=true by simpa using h0,Xak]
  rw[Qa1 (x:=y+_),Qa1 (x:=d+_)]
 have ha:actE n.Table x s=([totS [(flG (Qkp n.Table x.Level) s).Steam,(Qkz (flG (Qkp n.Table x.Level) s).Water [1000-x.Amount,x.Amount]).getD 1 zs],(Qkz (flG (Qkp n.Table x.Level) s).Water [1000-x.Amount,x.Amount]).getD 0 zs],
  ⟨(Qp2 (flG (Qkp n.Table x.Level) s).Water [1000-x.Amount,x.Amount]).Heat,(Qp2 (flG (Qkp n.Table x.Level) s).Water [1000-x.Amount,x.Amount]).Silica,(Qp2 (flG (Qkp n.Table x.Level) s).Water [1000-x.Amount,x.Amount]).Gas,(flG (Qkp n.Table x.Level) s).Scale⟩,(flG (Qkp n.Table x.Level) s).Steam.Mass):=by
  unfold actE
  rw[Xat (show ¬x.Kind=3 by omega),Xaz h4,Xat h0]
 have hav:=hA.a4 h4
 have hw:=Zgn (a:=x.Amount) (by omega) hav.2
 have:=hk.km
 have:=hk.st.m0
 have:=hk.wa.m0
 have:=hk.ks
 have:=hk.wa.s0
 have:=hk.sc
 rw[ha,show(x.Amount==0)=false by simpa using h0,Xai,Qa1 (x:=y+_),Qa1 (x:=d+_),Qa1 (x:=1000-x.Amount)]
 have hsh:=Q42 (N:=N) (n:=n) (nW:=D) (ws:=ws) (y:=y+(flG (Qkp n.Table x.Level) s).Steam.Mass) (O:=O) (Ss:=Ss.set i (d+(flG (Qkp n.Table x.Level) s).Scale)) (Ls:=Ls.set i ⟨0,0,0,(flG (Qkp n.Table x.Level) s).Scale⟩) (l0:=⟨0,0,0,(flG (Qkp n.Table x.Level) s).Scale⟩) hN hk.wa hlo hw (Xd0 hln) (by rw[Xgu];exact hln)
 obtain⟨u,v,hp⟩:=Q4o (s:=(flG (Qkp n.Table x.Level) s).Water) (a:=1000-x.Amount) (b:=x.Amount)
 have hKp:=Qqg hk.wa hw
 rw[hp] at hsh hKp ⊢
 have htot:Qgt N [(flG (Qkp n.Table x.Level) s).Steam,v]=some (totS [(flG (Qkp n.Table x.Level) s).Steam,v]):=by
  rw[Qx1 (by simp) hN,Qu6 (fun z hz=>by
   simp at hz
   rcases hz with rfl |rfl
   ·exact hk.st
   exact hKp.v _ (by simp)) (by simp)]
 refine(Xek (fun z=>Option.bind z _) hsh).trans ?_
 simp only[Xaa,show getI [u,v] 1=some v from rfl,show getI [u,v] 0=some u from rfl,List.set_set]
 exact Xek (fun z=>Option.bind z _) htot
include hN hv ht hx hst hlo hLs hSs hd0 hd1 hO hy0 hy1 in
theorem Ztp (hln:i<Ls.length) (hD:D=O.length) (hDl:D=Ls.length) (hDs:D=Ss.length) {w:Int}(hw:s.Mass<=w) {ins:List Qaa}(hin:Qdc N n.Table n.Elements O Ls Ss ws y i=some ins) (htot:Qgt N ins=some s) :
  Qeq N i w n.Table n.Elements D D D ws y O Ls Ss=some (.inl (y+(actE n.Table x s).2.2,O.set i (actE n.Table x s).1,Ls.set i (actE n.Table x s).2.1,Ss.set i (d+(actE n.Table x s).2.1.Scale))):=by
 have hxm:=Xac hx
 have hA:=Quy (hv.alone x hxm)
 obtain⟨r,hr⟩:=hO
 have c1:(decide ((0:Int)<=(i:Int))&&decide (i<D))=true:=by simp;omega
 unfold Qeq
 simp only[Qjr,Xaa,chk,Qb0,show decide (D<=O.length)=true by simp;omega,show decide (D<=Ls.length)=true by simp;omega,show decide (D<=Ss.length)=true by simp;omega,Xak]
 rw[show O.take D=O from by rw[hD,Xcv],show Ls.take D=Ls from by rw[hDl,Xcv],show Ss.take D=Ss from by rw[hDs,Xcv],hin,Xaa,htot,Xaa,Xah (show ¬s.Mass>w by omega),Xai,Qb8 hx,Xaa]
 simp only[c1,Xak,Xbf,hr,Xaa,Qid]
 have hpass:(actE n.Table x s)=([s],⟨0,0,0,0⟩,0)->(y,O.set i [s],Ls,Ss)=(y+(actE n.Table x s).2.2,O.set i (actE n.Table x s).1,Ls.set i (actE n.Table x s).2.1,Ss.set i (d+(actE n.Table x s).2.1.Scale)):=fun e=>by
  rw[e]
  simp only[Xeq]
  rw[Qw8 hLs,Qw8 hSs]
 by_cases h1:x.Kind=1
 ·rw[h1]
  simp only[show((1:Int)==0)=false from rfl,show((1:Int)==1)=true from rfl,Xak,Xai]
  rw[hpass (by unfold actE;rw[Xat (by omega),Xat (by omega),Xat (by omega)])]
 by_cases h2:x.Kind=2
 ·rw[h2]
  simp only[show((2:Int)==0)=false from rfl,show((2:Int)==1)=false from rfl,show((2:Int)==2)=true from rfl,Xak,Xai]
  rw[hpass (by unfold actE;rw[Xat (by omega),Xat (by omega),Xat (by omega)])]
 by_cases h3:x.Kind=3
 ·rw[h3]
  simp only[show((3:Int)==0)=false from rfl,show((3:Int)==1)=false from rfl,show((3:Int)==2)=false from rfl,show((3:Int)==3)=true from rfl,Xak,Xai]
  have e:actE n.Table x s=([⟨s.Mass,s.Heat-Qw2 x s,s.Silica,s.Gas⟩],⟨Qw2 x s,0,0,0⟩,0):=by unfold actE;rw[Xaz h3]
  have hc:0<=Qw2 x s/\Qw2 x s<=s.Heat:=by
   have:=hA.a3 h3
   have:=hst.h0
   unfold Qw2;split<;>omega
  have:=hst.h1
  have:=hst.m1
  unfold Qk9
  simp only[Qb8 hx,Xaa,chk,c1,Xak,Xbf,hLs]
  rw[show(if s.Heat<x.Amount then s.Heat else x.Amount)=Qw2 x s from rfl,Qa1 (x:=s.Heat-Qw2 x s),e]
  simp only[Xeq]
  rw[Qw8 hSs]
 by_cases h4:x.Kind=4
 ·have hsep:=Q73 (N:=N) hN hv ht hx hst (ws:=ws) (O:=O) hlo hLs hSs hd0 hd1 hy0 hy1 hln h4
  rw[h4]
  simp only[show((4:Int)==0)=false from rfl,show((4:Int)==1)=false from rfl,show((4:Int)==2)=false from rfl,show((4:Int)==3)=false from rfl,show((4:Int)==4)=true from rfl,Xak,Xai,hsep,Xaa]
 by_cases h5:x.Kind=5
 ·have hsh:=Q42 (N:=N) (n:=n) (nW:=D) (ws:=ws) (y:=y) (O:=O) (Ss:=Ss) (Ls:=Ls) hN hst hlo (hA.w5 h5) hLs hln
  have e:actE n.Table x s=(Qkz s x.Weights,⟨(Qp2 s x.Weights).Heat,(Qp2 s x.Weights).Silica,(Qp2 s x.Weights).Gas,0⟩,0):=by unfold actE;rw[Xat h3,Xat h4,Xaz h5]
  rw[h5]
  unfold Qkm
  simp only[show((5:Int)==0)=false from rfl,show((5:Int)==1)=false from rfl,show((5:Int)==2)=false from rfl,show((5:Int)==3)=false from rfl,show((5:Int)==4)=false from rfl,show((5:Int)==5)=true from rfl,Xak,Xai,Qb8 hx,Xaa,hsh,e,Xeq]
  rw[Qw8 hSs]
 have h6:x.Kind=6:=by have:=hA.k;omega
 rw[h6]
 simp only[show((6:Int)==0)=false from rfl,show((6:Int)==1)=false from rfl,show((6:Int)==2)=false from rfl,show((6:Int)==3)=false from rfl,show((6:Int)==4)=false from rfl,show((6:Int)==5)=false from rfl,show((6:Int)==6)=true from rfl,Xak,Xai]
 rw[hpass (by unfold actE;rw[Xat h3,Xat h4,Xat h5])]
end
end
section
theorem Zjh {N:Nat}{n:GNet}{i:Nat}{w:Int}{D:Nat}{ws:List Qaa}{y:Int}{O:List (List Qaa)}{Ls:List Qbp}{Ss:List Int}{s:Qaa}(hD:D=O.length) (hDl:D=Ls.length) (hDs:D=Ss.length) (hw:¬s.Mass<=w) {ins:List Qaa}(hin:Qdc N n.Table n.Elements O Ls Ss ws y i=some ins) (htot:Qgt N ins=some s) :
  Qeq N i w n.Table n.Elements D D D ws y O Ls Ss=some (.inr i):=by
 unfold Qeq
 simp only[Qjr,Xaa,chk,Qb0,show decide (D<=O.length)=true by simp;omega,show decide (D<=Ls.length)=true by simp;omega,show decide (D<=Ss.length)=true by simp;omega,Xak]
 rw[show O.take D=O from by rw[hD,Xcv],show Ls.take D=Ls from by rw[hDl,Xcv],show Ss.take D=Ss from by rw[hDs,Xcv],hin,Xaa,htot,Xaa,Xae (show s.Mass>w by omega),Xak]
abbrev Zea:=List (List Qaa)×List Qbp×List Int×Int
def Q3m {β:Type}(r:Nat⊕Zea) (f:Nat->β) (g:Zea->β):β:=match r with |.inl a=>f a |.inr b=>g b
theorem Zg2 {α:Type}{o:List α}{i k:Nat}(h:o.length=i) (x y:α):(o++List.replicate (k+1) x).set i y=(o++[y])++List.replicate k x:=by
 rw[Xdg _ _ (by omega),h,Xd3,Xfw,Xgb,Xan]
 rfl
structure StV (n:GNet) (st:List Int):Prop where
 len:st.length=n.Elements.length
 bd:∀d∈st,0<=d/\d<=1000000000000000
theorem Zvy {n:GNet}{st:List Int}(hst:stB n st=true):StV n st:=by
 unfold stB at hst
 simp only[Xaq,Xbw] at hst
 refine⟨hst.1,fun d hd=>?_⟩
 have:=Qeb.1 (Xa6.1 hst.2 d hd)
 omega
theorem Q4y {n:GNet}{st:List Int}(hst:StV n st):st.length=n.Elements.length:=hst.len
theorem Zvx {n:GNet}{st:List Int}(hst:StV n st) {i:Nat}(hi:i<n.Elements.length):∃d,st[i]? = some d/\0<=d/\d<=1000000000000000:=by
 have hl:=hst.len
 obtain⟨a,b⟩:=hst.bd (st[i]'(by omega)) (Xb2 _)
 exact⟨st[i]'(by omega),Xab _,a,b⟩
section
variable {N : Nat} {n : GNet} (hs : Qth n) (hN : 1001 <= N) (hv : NetV n) {ws : List Qaa} (hf : FedV n ws) {st : List Int} (hst : StV n st)
include hs hN hv hf hst in
theorem Ztq (k:List (List Qaa)×List Qbp×List Int×Int->Option (Int⊕(Int×Int×List (List Qaa)×List Qbp×List Int))):∀(m i:Nat) (o:List (List Qaa)) (ls:List Qbp) (ss:List Int) (y:Int),(n.Elements.drop i).length<m->i<=n.Elements.length->InvT n ws i o ls->ss.length=i->0<=y->y<=1000000*i ->
  Qfs N n st ws k m i (o++List.replicate (n.Elements.length-i) []) (ls++List.replicate (n.Elements.length-i) ⟨0,0,0,0⟩) (ss++st.drop i) y =
  Q3m (Q4r n.Table ((n.Elements.drop i).zip (st.drop i)) (ws.drop (wcn n i)) o ls ss y) (fun a=>some (.inl (a:Int))) k:=by
 intro m
 induction m with
 |zero=>intro i _ _ _ _ h;cases h
 |succ m ih=>
  intro i o ls ss y h hi hI hss hy0 hy1
  have hsl:=Q4y hst
  have e0:=hs.e
  rw[Qfs]
  cases hd:n.Elements.drop i with
  |nil=>
   have:=Qca hd
   have hi2:i=n.Elements.length:=by omega
   subst hi2
   rw[show decide ((n.Elements.length:Int)<(n.Elements.length:Int))=false by simp,Xai,Xd3,show st.drop n.Elements.length=[] from Xcp (by omega)]
   simp[Q4r,Q3m]
  |cons x l=>
   obtain⟨hg,hd',hlt⟩:=Qbn hd
   obtain⟨d,hgd,d0,d1⟩:=Zvx hst hlt
   have hds:st.drop i=d::st.drop (i+1):=by
    have hi:=(Xad.1 hgd).1
    rw[Xbe hi]
    rw[Xab hi] at hgd
    cases hgd;rfl
   obtain⟨iv,it⟩:=Zpx hv hf hI hg
   have hx:=hs.x x (Xac hg)
   have hinl:(insE o (ws.drop (wcn n i)) x).length<=100:=by
    unfold insE
    split
    ·rw[Xdk];omega
    rw[Xb3];omega
   have hk:n.Elements.length-i=(n.Elements.length-(i+1))+1:=by omega
   have hwid:=Zgk N (hv.alone x (Xac hg)) d0 (show d<=9000000000000000000 by omega)
   simp only[dlI hlt,Xak,Qb8 hg,Qb8 hgd,Xaa,hwid,Xbf,hsl]
   have htot:Qgt N (insE o (ws.drop (wcn n i)) x)=some (totS (insE o (ws.drop (wcn n i)) x)):=by rw[Qx1 (by omega) hN,Qu6 iv (by omega)]
   have hin:=Zr2 hs hN hv hf hI hg (List.replicate (n.Elements.length-i) []) (ls++List.replicate (n.Elements.length-i) ⟨0,0,0,0⟩) (ss++st.drop i) y
   have lO:n.Elements.length=(o++List.replicate (n.Elements.length-i) []).length:=by simp[hI.lo];omega
   have lL:n.Elements.length=(ls++List.replicate (n.Elements.length-i) (⟨0,0,0,0⟩:Qbp)).length:=by simp[hI.ll];omega
   have lS:n.Elements.length=(ss++st.drop i).length:=by simp[hss,hsl];omega
   rw[hds,Xe7,Q4r]
   by_cases hm:(totS (insE o (ws.drop (wcn n i)) x)).Mass>widI x d
   ·rw[Xaz hm,<-hds,Zjh lO lL lS (by omega) hin htot,hI.lo]
    rfl
   rw[Xat hm]
   have hLs:(ls++List.replicate (n.Elements.length-i) (⟨0,0,0,0⟩:Qbp))[i]? = some ⟨0,0,0,0⟩:=by
    rw[Xam (by rw[hI.ll];exact Xay _),hI.ll,Xd3,hk,Xfw];rfl
   have hSs:(ss++st.drop i)[i]? = some d:=by
    rw[Xam (by omega),hss,Xd3,hds];rfl
   have hO:∃r,(o++List.replicate (n.Elements.length-i) ([]:List Qaa))[i]? = some r:=⟨[],by
    rw[Xam (by rw[hI.lo];exact Xay _),hI.lo,Xd3,hk,Xfw];rfl⟩
   have hel:=Ztp (N:=N) hN hv (by have:=hs.t;omega) hg it (D:=n.Elements.length) hlt hLs hSs d0 (by omega) hO hy0 (by omega) (by rw[<-lL];exact hlt) lO lL lS (w:=widI x d) (by omega) hin htot
   have hK:=Zbj hv hf hI hg
   have hI2:=Zbi hv hf hI hg hK
   rw[<-hds,hel,Xaa,Sum.elim_inl]
   dsimp only
   have hSet:(ss++st.drop i).set i (d+(actE n.Table x (totS (insE o (ws.drop (wcn n i)) x))).2.1.Scale)=(ss++[d+(actE n.Table x (totS (insE o (ws.drop (wcn n i)) x))).2.1.Scale])++st.drop (i+1):=by
    rw[hds,Xdg _ _ (by omega),hss,Xd3,Xgb,Xan]
    rfl
   rw[hSet,hk,Zg2 hI.lo,Zg2 hI.ll,w64S (i:=i) (by omega)]
   have t0:=hK.t0
   have t1:=hK.t1
   have hih:=ih (i+1) _ _ (ss++[d+(actE n.Table x (totS (insE o (ws.drop (wcn n i)) x))).2.1.Scale]) (y+(actE n.Table x (totS (insE o (ws.drop (wcn n i)) x))).2.2) (dlt hd hd' h) hlt hI2 (by simp[hss]) (by omega) (by omega)
   rw[hd'] at hih
   refine hih.trans ?_
   have hw:ws.drop (wcn n (i+1))=if x.Kind=1 then(ws.drop (wcn n i)).drop 1 else ws.drop (wcn n i):=by
    rw[Qr7 hg]
    split
    ·rw[Xez]
    rfl
   rw[hw]
def Q4q (n:GNet) (st:List Int) (ws:List Qaa):Nat⊕Zea:=Q4r n.Table (n.Elements.zip st) ws [] [] [] 0
include hs hN hv hf hst in
theorem Zy6:Qjf N n st ws=Q3m (Q4q n st ws) (fun a=>some (.inl (a:Int))) (fun r=>some (.inr (-1,r.2.2.2,r.1,r.2.1,r.2.2.1))):=by
 have e0:=hs.e
 have hsl:=Q4y hst
 have hl1:=hv.len.1
 have hne:(!st.isEmpty)=true:=by
  cases st with
  |nil=>simp at hsl;omega
  |cons=>rfl
 unfold Qjf Qh7
 simp only[chk,hne,Qb0]
 rw[show(decide (0<=(n.Elements.length:Int))&&decide (24*(n.Elements.length:Int)<=281474976710656)&&decide ((n.Elements.length:Int)<=9223372036854775807))=true by simp;omega,show(decide (0<=(n.Elements.length:Int))&&decide (32*(n.Elements.length:Int)<=281474976710656)&&decide ((n.Elements.length:Int)<=9223372036854775807))=true by simp;omega,show decide ((0+st.length)*8<=140737488355328)=true by simp;omega]
 simp only[Xak,Xaa,Xbf]
 have:=Ztq hs hN hv hf hst (fun x=>match x with |(y12,y13,y14,y15)=>some (.inr (-1,y15,y12,y13,y14))) N 0 [] [] [] 0 (by simp;omega) (Xbg _) (Q5w n ws) rfl (Xbp _) (by simp)
 simp only[Xa9,Xga,Xap,show wcn n 0=0 from rfl] at this
 refine this.trans ?_
 unfold Q4q
 rfl
end
def fedI (n:GNet) (ws:List Qaa):Int:=
 bif decide (ws.length=wcn n n.Elements.length)&&ws.all strB then(if (totS ws).Mass>1000000 then 3 else if (totS ws).Gas>1000000000 then 3 else 0) else 1
theorem Znt (N:Nat) (s:Qaa):Qi0 N s=some (bif strB s then 0 else 1):=by
 unfold Qi0
 rw[Q2e]
 cases strB s<;>rfl
theorem Zwl {N:Nat}{n:GNet}(hs:Qth n) (hN:1001<=N) {ws:List Qaa}(hl:ws.length<=1000):Qmi N n ws=some (fedI n ws):=by
 have hc:Qck N ws=some (ws.any fun x=>!strB x):=by
  unfold Qck Qdh Qb0
  refine Ql2 (F:=Qbr N ws fun _=>some (-1)) (k:=fun _=>some (-1)) (q:=Qfr N) (fun n y=>rfl) (fun x=>?_) rfl (by omega) (by omega)
  simp only[Qfr,Qmh,Znt,Xaa]
  cases strB x<;>rfl
 have e0:=hs.e
 have hof:(ofL 1 0 n.Elements).length=wcn n n.Elements.length:=by rw[Qyv];unfold wcn;rw[Xcv]
 unfold Qmi Qhq fedI
 simp only[Qb0,Zpv hs hN 1,Xaa,hc,Qz0,hof,Qx1 hl hN]
 by_cases h1:ws.length=wcn n n.Elements.length
 ·rw[Xae h1,show((ws.length:Int) != (wcn n n.Elements.length:Int))=false by rw[bne_eq_false_iff_eq];omega]
  cases ha:ws.all strB with
  |false=>rfl
  |true=>
   have hall:∀s∈ws,StrV s:=fun s h=>Qt1.1 (Xa6.1 ha s h)
   rw[Qu6 hall hl]
   simp only[Xai,Xb4,Xcc,Xak]
   by_cases h2:(totS ws).Mass>1000000
   ·rw[Xae h2,Xaz h2];rfl
   rw[Xah h2,Xat h2]
   by_cases h3:(totS ws).Gas>1000000000
   ·rw[Xae h3,Xaz h3];rfl
   rw[Xah h3,Xat h3];rfl
 rw[Xah h1,show((ws.length:Int) != (wcn n n.Elements.length:Int))=true by rw[Xeb];omega];rfl
theorem Zr8 {n:GNet}{ws:List Qaa}(h:fedI n ws=0):FedV n ws:=by
 unfold fedI at h
 cases hb:decide (ws.length=wcn n n.Elements.length)&&ws.all strB with
 |false=>rw[hb] at h;cases h
 |true=>
  rw[hb,Xak] at h
  simp only[Xaq,Xbw] at hb
  by_cases h2:(totS ws).Mass>1000000
  ·rw[Xaz h2] at h;cases h
  rw[Xat h2] at h
  by_cases h3:(totS ws).Gas>1000000000
  ·rw[Xaz h3] at h;cases h
  exact⟨hb.1,fun s hs=>Qt1.1 (Xa6.1 hb.2 s hs),by omega,by omega⟩
def Qp8 (n:GNet) (st:List Int) (ws:List Qaa):Int:=bif netB n&&stB n st then fedI n ws else 1
theorem Zl5 {N:Nat}{n:GNet}(hs:Qth n) (hN:1001<=N) {st:List Int}{ws:List Qaa}(hl:ws.length<=1000) (hl2:st.length<=1000):Qoq N n st ws=some (Qp8 n st ws):=by
 unfold Qoq Qp8
 rw[Zgw hs hN hl2,Xaa]
 cases netB n&&stB n st with
 |false=>rfl
 |true=>simp only[Xak,show((0:Int) != 0)=false from rfl,Xai,Zwl hs hN hl,Xaa]
def Zvr:Qm2:=⟨[],[],[]⟩
def doA (n:GNet) (st:List Int) (ws:List Qaa):Qm2×Int×Int:=
 if Qp8 n st ws=0 then Q3m (Q4q n st ws) (fun a=>(Zvr,(a:Int),11)) (fun r=>(⟨r.1,r.2.1,r.2.2.1⟩,0,0)) else(Zvr,0,Qp8 n st ws)
theorem Qyg {n:GNet}{st:List Int}{ws:List Qaa}(h:Qp8 n st ws=0):NetV n/\StV n st/\FedV n ws/\netB n=true:=by
 unfold Qp8 at h
 cases hb:netB n&&stB n st with
 |false=>rw[hb] at h;cases h
 |true=>
  rw[hb] at h
  rw[Xaq] at hb
  exact⟨Zrw hb.1,Zvy hb.2,Zr8 h,hb.1⟩
structure Zw2 (n:GNet) (st:List Int) (ws:List Qaa) (r:Zea):Prop where
 inv:InvT n ws n.Elements.length r.1 r.2.1
 ss:r.2.2.1=List.zipWith (fun (d:Int) (l:Qbp)=>d+l.Scale) st r.2.1
 y0:0<=r.2.2.2
theorem Zay {n:GNet}(hv:NetV n) {ws:List Qaa}(hf:FedV n ws) {st:List Int}(hst:StV n st):∀(l:List (Qam×Int)) (i:Nat) (o:List (List Qaa)) (ls:List Qbp) (ss:List Int) (y:Int) (r:Zea),
  l=(n.Elements.drop i).zip (st.drop i)->i<=n.Elements.length->InvT n ws i o ls->ss=List.zipWith (fun (d:Int) (q:Qbp)=>d+q.Scale) (st.take i) ls->0<=y->Q4r n.Table l (ws.drop (wcn n i)) o ls ss y=.inr r->Zw2 n st ws r
 |[],i,o,ls,ss,y,r,hl,hi,hI,hss,hy,h=>by
  have hsl:=Q4y hst
  have hlen:(n.Elements.drop i).length=0:=by
   have:=Xek List.length hl
   rw[List.length_zip,Xfm,Xfm] at this
   simp at this
   rw[Xfm];omega
  rw[Xfm] at hlen
  have e:i=n.Elements.length:=by omega
  rw[Q4r] at h
  cases h
  subst e
  exact⟨hI,by dsimp only;rw[hss,Xcb (by omega)],hy⟩
 |(x,d)::l,i,o,ls,ss,y,r,hl,hi,hI,hss,hy,h=>by
  have hsl:=Q4y hst
  have hlt:i<n.Elements.length:=by
   apply Xh7
   intro hc
   rw[Xcp (by omega)] at hl
   simp at hl
  have hdE:n.Elements.drop i=n.Elements[i]::n.Elements.drop (i+1):=Xbe hlt
  have hdS:st.drop i=st[i]'(by omega)::st.drop (i+1):=Xbe (by omega)
  rw[hdE,hdS,Xe7,Xfy,Xef] at hl
  obtain⟨⟨hx,hd⟩,hl⟩:=hl
  have hg:n.Elements[i]? = some x:=by rw[hx];exact Xab hlt
  have hgd:st[i]? = some d:=by rw[hd];exact Xab _
  rw[Q4r] at h
  by_cases hm:(totS (insE o (ws.drop (wcn n i)) x)).Mass>widI x d
  ·rw[Xaz hm] at h;cases h
  rw[Xat hm] at h
  have hK:=Zbj hv hf hI hg
  have hI2:=Zbi hv hf hI hg hK
  have hw:ws.drop (wcn n (i+1))=if x.Kind=1 then(ws.drop (wcn n i)).drop 1 else ws.drop (wcn n i):=by
   rw[Qr7 hg]
   split
   ·rw[Xez]
   rfl
  rw[<-hw] at h
  refine Zay hv hf hst l (i+1) _ _ _ _ r hl hlt hI2 ?_ (by have:=hK.t0;omega) h
  rw[Qpo hgd,hss,List.zipWith_append (by rw[Xdk,hI.ll];omega)]
  rfl
theorem Q2g {n:GNet}(hv:NetV n) {ws:List Qaa}(hf:FedV n ws) {st:List Int}(hst:StV n st) {r:Zea}(h:Q4q n st ws=.inr r):Zw2 n st ws r:=
 Zay hv hf hst _ 0 [] [] [] 0 r (by simp) (Xbg _) (Q5w n ws) (by simp) (Xbp _) h
theorem Zws {N:Nat}{n:GNet}(hs:Qth n) (hN:1001<=N) {st:List Int}{ws:List Qaa}(hl:ws.length<=1000) (hl2:st.length<=1000):Que N n st ws=some (doA n st ws):=by
 unfold Que doA
 rw[Zl5 hs hN hl hl2,Xaa]
 by_cases hr:Qp8 n st ws=0
 ·obtain⟨hv,hst,hf,_⟩:=Qyg hr
  rw[Xaz hr,hr,show((0:Int) != 0)=false from rfl,Xai,Zy6 hs hN hv hf hst]
  cases ht:Q4q n st ws with
  |inl a=>
   simp only[Q3m,Xaa,Sum.elim_inl,Xae (show(a:Int)>=0 by omega),Xak]
   rfl
  |inr r=>
   obtain⟨⟨h1,h2,_⟩,h3,_⟩:=Q2g hv hf hst ht
   have hsl:=Q4y hst
   have h4:r.2.2.1.length=n.Elements.length:=by rw[h3,List.length_zipWith];omega
   simp only[Q3m,Xaa,Sum.elim_inr,show decide ((-1:Int)>=0)=false from rfl,Xai,chk,Xbf]
   rw[show decide (n.Elements.length<=r.1.length)=true by simp;omega,show decide (n.Elements.length<=r.2.1.length)=true by simp;omega,show decide (st.length<=r.2.2.1.length)=true by simp;omega,Xcb (by omega),Xcb (by omega),Xcb (by omega)]
   rfl
 rw[Xat hr,show(Qp8 n st ws != 0)=true by simpa using hr,Xak]
 rfl
end
section
theorem Zbs (i:Nat):∀(r:List Qaa) (j:Nat),Qtd i j r=(List.range r.length).map fun k:Nat=>(((i:Int),((j+k:Nat):Int)),r.getD k zs)
 |[],_=>rfl
 |x::r,j=>by
  rw[Qtd,Zbs i r (j+1),Xa5,List.range_succ_eq_map,Xax,Xeo]
  congr 1
  apply Xdx
  intro k _
  simp[show j+1+k=j+(k+1) by omega]
theorem Q09 (O:List (List Qaa)):∀(els:List Qam) (o pre:List (List Qaa)),O=pre++o->els.length=o.length->(∀(k:Nat) y r,els[k]? = some y->o[k]? = some r->(r.length:Int)=outl y) ->
  Qkq pre.length o=(Qq9 pre.length els).map fun p=>(pq p,Qkl O p)
 |[],[],_,_,_,_=>rfl
 |x::els,r::o,pre,hO,hl,hr=>by
  have h1:=hr 0 x r rfl rfl
  have ih:=Q09 O els o (pre++[r]) (by rw[hO];simp) (by simpa using hl) fun k y q hy hq=>hr (k+1) y q (by simpa using hy) (by simpa using hq)
  rw[Xb1,List.length_singleton] at ih
  rw[Qkq,Qq9,Xdy,ih,Zbs,Xeo,show(outl x).toNat=r.length by omega]
  congr 1
  apply Xdx
  intro k hk
  have hk':=Xd7.1 hk
  have hg:O.getD pre.length []=r:=by rw[hO,Xaj,Xam (Xay _),Xd3];rfl
  simp only[Function.comp,pq,Qkl,Xbf,hg,Xar]
 |[],_::_,_,_,h,_=>by simp at h
 |_::_,[],_,_,h,_=>by simp at h
def Qyt (n:GNet) (o:List (List Qaa)):List Qaa:=(Q3k n).map (Qkl o)
section
variable {n : GNet} (hv : NetV n) {ws : List Qaa} {o : List (List Qaa)} {ls : List Qbp} (hI : InvT n ws n.Elements.length o ls)
include hI
theorem Q5h:Qkq 0 o=(Qq9 0 n.Elements).map fun p=>(pq p,Qkl o p):=Q09 o n.Elements o [] rfl hI.lo.symm hI.rows
theorem Zma (f:Qaa->Int):Qjx f (Qli n n.Elements.length) (Qkq 0 o)=((Qyt n o).map f).sum:=by
 rw[Zcs,Q5h hI]
 unfold Qjx Qyt Q3k
 rw[List.filter_map,Xeo,Xeo]
 rfl
theorem Zhk {p:Qhm}(hp:p∈Q3k n):0<=p.Element/\0<=p.Outlet/\∃r,o[p.Element.toNat]? = some r/\r[p.Outlet.toNat]? = some (Qkl o p):=by
 have h1:(pq p,Qkl o p)∈Qkq 0 o:=by
  rw[Q5h hI]
  exact Xba.2 ⟨p,(Xen.1 hp).1,rfl⟩
 obtain⟨a,b,r,c,d⟩:=Qrv.1 h1
 refine⟨by simpa using a,b,r,?_,d⟩
 rw[show(p.Element-((0:Nat):Int)).toNat=p.Element.toNat by simp] at c
 exact c
theorem Zhj:∀s∈Qyt n o,StrV s:=fun s hs=>by
 obtain⟨p,hp,rfl⟩:=Xba.1 hs
 obtain⟨_,_,r,h1,h2⟩:=Zhk hI hp
 exact hI.v r (Xac h1) _ (Xac h2)
theorem Q4p (hf:FedV n ws):(totS (Qyt n o)).Mass=(totS ws).Mass/\(totS (Qyt n o)).Heat+(ls.map fun l=>l.Heat).sum=(totS ws).Heat/\(totS (Qyt n o)).Silica+(ls.map fun l=>l.Silica).sum+(ls.map fun l=>l.Scale).sum=(totS ws).Silica/\(totS (Qyt n o)).Gas+(ls.map fun l=>l.Gas).sum=(totS ws).Gas:=by
 have e:ws.take (wcn n n.Elements.length)=ws:=Xcb (by rw[hf.len];exact Xay _)
 have h1:=hI.m
 have h2:=hI.h
 have h3:=hI.q
 have h4:=hI.g
 rw[Zma hI,e] at h1 h2 h3 h4
 exact⟨h1,h2,h3,h4⟩
end
theorem Q4v (N:Nat) (l:List Qaa) (k:List Qaa->Option (List Qaa)) (hl:l.length<=1000):∀(m i:Nat) (acc:List Qaa),(l.drop i).length<m->acc.length=i->Qfu N l k m acc i=k (acc++l.drop i):=by
 intro m
 induction m with
 |zero=>intro i _ h;cases h
 |succ m ih=>
  intro i acc h ha
  rw[Qfu]
  cases hd:l.drop i with
  |nil=>
   have:=Qca hd
   simp[show ¬((i:Int)<l.length) from by omega]
  |cons p q=>
   obtain⟨hg,hd',hlt⟩:=Qbn hd
   simp only[dlI hlt,Xak,Qb8 hg,Qoc,Xaa,chk]
   rw[show decide ((acc.length+[p].length)*32<=140737488355328)=true by simp;omega,Xak,w64S (i:=i) (by omega),
    ih (i+1) _ (dlt hd hd' h) (by simp[ha]),hd',Xan]
   rfl
theorem Zcy {N:Nat}{l:List Qaa}(hl:l.length<=1000) (hN:1001<=N):Qll N l=some l:=by
 unfold Qll
 simp only[Qb0]
 refine(Q4v N l _ hl N 0 [] (by simp;omega) rfl).trans ?_
 rw[Xap,Xa9]
def Qn4 (ls:List Qbp):Qbp:=⟨(ls.map fun l=>l.Heat).sum,(ls.map fun l=>l.Silica).sum,(ls.map fun l=>l.Gas).sum,(ls.map fun l=>l.Scale).sum⟩
theorem Zdb (l:Qbp) (ls:List Qbp):Qn4 (l::ls)=⟨l.Heat+(Qn4 ls).Heat,l.Silica+(Qn4 ls).Silica,l.Gas+(Qn4 ls).Gas,l.Scale+(Qn4 ls).Scale⟩:=by simp[Qn4]
theorem Zh7 (N:Nat) (t:Qm2) (f e:Int) (k:Int×Int×Int×Int×List Qaa->Option (Qaa×Qaa×Qbp×Int)) (y:List Qaa) (hl:t.Lost.length<=1000):∀(m i:Nat) (a b c d:Int),(t.Lost.drop i).length<m ->
  Qf8 N (t,f,e) k m i (w64 a) (w64 b) (w64 c) (w64 d) y=k (w64 (a+(Qn4 (t.Lost.drop i)).Heat),w64 (b+(Qn4 (t.Lost.drop i)).Silica),w64 (c+(Qn4 (t.Lost.drop i)).Gas),w64 (d+(Qn4 (t.Lost.drop i)).Scale),y):=by
 intro m
 induction m with
 |zero=>intro i _ _ _ _ h;cases h
 |succ m ih=>
  intro i a b c d h
  rw[Qf8]
  cases hd:t.Lost.drop i with
  |nil=>
   have:=Qca hd
   simp[show ¬((i:Int)<t.Lost.length) from by omega,Qn4]
  |cons x q=>
   obtain⟨hg,hd',hlt⟩:=Qbn hd
   simp only[dlI hlt,Xak,Qb8 hg,Xaa,Qrm]
   rw[w64S (i:=i) (by omega),ih (i+1) _ _ _ _ (dlt hd hd' h),hd',Zdb]
   simp only[Xfr]
theorem Q0x {N:Nat}{n:GNet}{ws:List Qaa}{t:Qm2}{ls:List Qbp}(hI:InvT n ws n.Elements.length t.Out ls) (f e:Int) (k:List Qaa->Option (Qaa×Qaa×Qbp×Int)):∀(q:List Qhm) (y:List Qaa),(∀p∈q,p∈Q3k n)->y.length+q.length<=1000 ->
  Qfd N (t,f,e) k q y=k (y++q.map (Qkl t.Out))
 |[],y,_,_=>by simp[Qfd]
 |p::q,y,hq,hl=>by
  obtain⟨h1,h2,r,h3,h4⟩:=Zhk hI (hq p Xb9)
  have hc:decide ((y.length+[Qkl t.Out p].length)*32<=140737488355328)=true:=by simp at hl ⊢;omega
  rw[Qfd]
  simp only[show getI t.Out p.Element=some r by unfold getI;rw[Xaz h1,h3],show getI r p.Outlet=some (Qkl t.Out p) by unfold getI;rw[Xaz h2,h4],Xaa,chk,hc,Xak]
  rw[Q0x hI f e k q _ (fun z hz=>hq z (Xal _ hz)) (by simp at hl ⊢;omega)]
  simp
def str0:Qaa:=⟨0,0,0,0⟩
def Zwf:Qbp:=⟨0,0,0,0⟩
def accA (n:GNet) (st:List Int) (ws:List Qaa):Qaa×Qaa×Qbp×Int:=
 if Qp8 n st ws=0 then Q3m (Q4q n st ws) (fun _=>(str0,str0,Zwf,11)) (fun r=>(totS ws,totS (Qyt n r.1),Qn4 r.2.1,0)) else(str0,str0,Zwf,Qp8 n st ws)
theorem Zno {N:Nat}{n:GNet}(hs:Qth n) (hN:1001<=N):Qj9 N n.Table n.Elements (Q7w n)=some (Q3k n):=by
 have e0:=hs.e
 unfold Qj9
 have h1:=Zje hs hN (Q7w n) N 0 (by simp;omega)
 rw[Xap] at h1
 exact h1
theorem Zjf {n:GNet}(hs:Qth n):(Q3k n).length<=450:=by
 have e0:=hs.e
 have h2:=Q0w n.Elements 0 fun x hx=>(hs.x x hx).2
 have h3:=List.length_filter_le (fun p=>!(Q7w n).contains (pq p)) (Qq9 0 n.Elements)
 unfold Q3k
 omega
theorem Zmk {n:GNet}{ws:List Qaa}{o:List (List Qaa)}{ls:List Qbp}(hI:InvT n ws n.Elements.length o ls) (hf:FedV n ws):(0<=(Qn4 ls).Heat/\(Qn4 ls).Heat<=4000000000)/\(0<=(Qn4 ls).Silica/\(Qn4 ls).Silica<=10000000000)/\(0<=(Qn4 ls).Gas/\(Qn4 ls).Gas<=1000000000)/\0<=(Qn4 ls).Scale/\(Qn4 ls).Scale<=10000000000:=by
 obtain⟨k1,k2,k3,k4⟩:=Q4p hI hf
 have v:=Qpz (Zhj hI)
 have w:=Qpz hf.v
 have hm:=hf.m
 have hg:=hf.g
 have n1:=Qkc (fun l:Qbp=>l.Heat) ls fun l h=>(hI.l0 l h).1
 have n2:=Qkc (fun l:Qbp=>l.Silica) ls fun l h=>(hI.l0 l h).2.1
 have n3:=Qkc (fun l:Qbp=>l.Gas) ls fun l h=>(hI.l0 l h).2.2.1
 have n4:=Qkc (fun l:Qbp=>l.Scale) ls fun l h=>(hI.l0 l h).2.2.2
 have:=v.h0
 have:=v.s0
 have:=v.g0
 have:=w.h1
 have:=w.s1
 unfold Qn4
 dsimp only
 omega
theorem Zd9 {N:Nat}{n:GNet}(hs:Qth n) (hN:1001<=N) {st:List Int}{ws:List Qaa}(hl:ws.length<=1000) (hl2:st.length<=1000):Qmj N n st ws=some (accA n st ws):=by
 unfold Qmj
 rw[Zws hs hN hl hl2,Xaa]
 unfold doA accA
 by_cases hr:Qp8 n st ws=0
 ·obtain⟨hv,hst,hf,_⟩:=Qyg hr
  rw[Xaz hr,Xaz hr]
  cases ht:Q4q n st ws with
  |inl a=>rfl
  |inr r=>
   have hT:=Q2g hv hf hst ht
   have hI:=hT.inv
   have hE:=Zjf hs
   have hll:=hI.ll
   have e0:=hs.e
   simp only[Q3m,show((0:Int) != 0)=false from rfl,Xai,Qb0,Zqy hs hv hN,Zno hs hN,Xaa]
   refine(Q0x (t:=⟨r.1,r.2.1,r.2.2.1⟩) hI 0 0 _ (Q3k n) [] (fun p h=>h) (by simp;omega)).trans ?_
   rw[Xa9]
   have:=fun k=>Zh7 N ⟨r.1,r.2.1,r.2.2.1⟩ 0 0 k ((Q3k n).map (Qkl r.1)) (by dsimp only;omega) N 0 0 0 0 0 (by dsimp only;simp;omega)
   rw[Q2d] at this
   refine(this _).trans ?_
   obtain⟨b1,b2,b3,b4⟩:=Zmk hI hf
   have hov:=Zhj hI
   have hol:(Qyt n r.1).length<=450:=by unfold Qyt;rw[Xb3];exact hE
   dsimp only
   rw[Xap,Qx1 hl hN,Qu6 hf.v hl,Xaa]
   show(Qgt N (Qyt n r.1)).bind _=_
   rw[Qx1 (by omega) hN,Qu6 hov (by omega),Xaa]
   simp only[Xep]
   rw[Qa1 (x:=(Qn4 r.2.1).Heat),Qa1 (x:=(Qn4 r.2.1).Silica),Qa1 (x:=(Qn4 r.2.1).Gas),Qa1 (x:=(Qn4 r.2.1).Scale)]
 rw[Xat hr,Xat hr]
 dsimp only
 rw[show(Qp8 n st ws != 0)=true by simpa using hr,Xak]
 rfl
end
section
def chkT {β:Type}{b:Bool}{k:Option β}(h:b=true):chk b k=k:=by subst h;rfl
def Qib (N:Nat) (a lo hi:Int):Qel N a lo hi=some (btw a lo hi):=by
 unfold Qel btw
 cases decide (lo<=a)<;>rfl
structure Zeb (t:Qav) (x:Qc8):Prop where
 f:0<=x.From/\x.From<t.Sites
 to:0<=x.To/\x.To<t.Sites
 ne:x.From≠x.To
 lo:0<=x.Seen.Lo/\x.Seen.Lo<=x.Seen.Hi
 hi:x.Seen.Hi<=1000000
structure Qkn (t:Qav):Prop where
 l:t.Tests.length<=60
 s:1<=t.Sites/\t.Sites<=12
 t:∀x∈t.Tests,Zeb t x
def Q2q {N:Nat}{t:Qav}(h:1<=t.Sites/\t.Sites<=12) (n:Int):Qez N t n=some (btw n 0 (t.Sites-1)):=by
 unfold Qez
 rw[Qa1,Qib,Xaa]
def BdR (f:Nat->Int):Prop:=∀i,0<=f i/\f i<=1000000
def BdR.set {f:Nat->Int}(h:BdR f) (k:Nat) {x:Int}(h0:0<=x) (h1:x<=1000000):BdR (setF f k x):=fun i=>by
 unfold setF
 split
 ·exact⟨h0,h1⟩
 exact h i
def ix12 {u:Int}(h0:0<=u) (h1:u<12):(decide (0<=u)&&decide (u.toNat<12))=true:=by
 rw[Xae h0,Xae (by omega)]
 rfl
def Zy4 (N:Nat) {u:Int}(hu:0<=u/\u<12) (k:(Nat->Int)×(Nat->Int)->Option ((Nat->Int)×(Nat->Int))):∀(n j:Nat) (R B:Nat->Int),12-j<n->j<=12->BdR R->∃R' B',BdR R'/\Qc1 N u k n j R B=k (R',B'):=by
 intro n
 induction n with
 |zero=>intro j _ _ h;cases h
 |succ n ih=>
  intro j R B h hj hR
  rw[Qc1]
  by_cases hlt:j<12
  ·have hv:=ix12 (u:=(j:Int)) (by omega) (by omega)
   rw[Xae (show(j:Int)<12 by omega),Xak,chkT (ix12 hu.1 hu.2),chkT hv,chkT (ix12 hu.1 hu.2),chkT hv,Qa1,show(j:Int)+1=((j+1:Nat):Int) by omega]
   cases (u != (j:Int)) with
   |false=>exact ih (j+1) _ _ (by omega) (by omega) hR
   |true=>exact ih (j+1) _ _ (by omega) (by omega) (hR.set _ (by decide) (by decide))
  rw[Xah (show ¬(j:Int)<12 by omega)]
  exact⟨R,B,hR,rfl⟩
def Zy5 {N:Nat}(hN:1000<=N) (k:(Nat->Int)×(Nat->Int)->Option ((Nat->Int)×(Nat->Int))):∀(n j:Nat) (R B:Nat->Int),12-j<n->j<=12->BdR R->∃R' B',BdR R'/\Qcq N k n j R B=k (R',B'):=by
 intro n
 induction n with
 |zero=>intro j _ _ h;cases h
 |succ n ih=>
  intro j R B h hj hR
  rw[Qcq]
  by_cases hlt:j<12
  ·rw[Xae (show(j:Int)<12 by omega),Xak,Qcs]
   obtain⟨R1,B1,h1,e1⟩:=Zy4 N (u:=(j:Int)) (by omega) (fun (q:(Nat->Int)×(Nat->Int))=>match q with |(y60,y61)=>Qcq N k n (w64 ((j:Int)+1)) y60 y61) N 0 R B (by omega) (by omega) hR
   obtain⟨R2,B2,h2,e2⟩:=ih (j+1) R1 B1 (by omega) (by omega) h1
   refine⟨R2,B2,h2,e1.trans ?_⟩
   show Qcq N k n (w64 ((j:Int)+1)) R1 B1=_
   rw[Qa1,show(j:Int)+1=((j+1:Nat):Int) by omega,e2]
  rw[Xah (show ¬(j:Int)<12 by omega)]
  exact⟨R,B,hR,rfl⟩
def LeR (f g:Nat->Int):Prop:=∀i,f i<=g i
def Zv1 {N:Nat}{t:Qav}(ht:Qkn t) {x:Qc8}(hx:Zeb t x) (y:Int) (k:(Nat->Int)×(Nat->Int)->Option ((Nat->Int)×(Nat->Int))):∀(n j:Nat) (R B:Nat->Int),12-j<n->(j:Int)<=t.Sites->BdR R ->
  ∃R' B',BdR R'/\LeR R' R/\Qc2 N t y k x n j R B=k (R',B'):=by
 have hs:=ht.s
 have hf:=hx.f
 have hto:=hx.to
 have hlo:=hx.lo
 have hhi:=hx.hi
 intro n
 induction n with
 |zero=>intro j _ _ h;cases h
 |succ n ih=>
  intro j R B h hj hR
  rw[Qc2]
  by_cases hlt:(j:Int)<t.Sites
  ·have hv:=ix12 (u:=(j:Int)) (by omega) (by omega)
   have a1:=hR (x.To.toNat*12+(j:Int).toNat)
   have a2:=hR (x.From.toNat*12+(j:Int).toNat)
   rw[Xae hlt,Xak,chkT (ix12 (u:=x.To) (by omega) (by omega)),chkT hv,Xaa,Qa1 (x:=x.Seen.Hi+_),chkT (ix12 (u:=x.From) (by omega) (by omega)),chkT hv]
   rw[w64S (i:=j) (by omega)]
   by_cases hc:x.Seen.Hi+R (x.To.toNat*12+(j:Int).toNat)<R (x.From.toNat*12+(j:Int).toNat)
   ·rw[Xae hc,Xak,chkT (ix12 (u:=x.From) (by omega) (by omega)),chkT hv,chkT (ix12 (u:=x.From) (by omega) (by omega)),chkT hv]
    obtain⟨R',B',h1,h2,h3⟩:=ih (j+1) (setF R (x.From.toNat*12+(j:Int).toNat) (x.Seen.Hi+R (x.To.toNat*12+(j:Int).toNat))) (setF B (x.From.toNat*12+(j:Int).toNat) y) (by omega) (by omega) (hR.set _ (by omega) (by omega))
    refine⟨R',B',h1,fun i=>Xgz (h2 i) ?_,h3⟩
    unfold setF
    split
    ·rename_i he;rw[he];omega
    exact Xbp _
   rw[Xah hc,Xai]
   exact ih (j+1) R B (by omega) (by omega) hR
  rw[Xah hlt]
  exact⟨R,B,hR,fun _=>Xbp _,rfl⟩
def Zv2 {N:Nat}{t:Qav}(hN:1000<=N) (ht:Qkn t) (k:(Nat->Int)×(Nat->Int)->Option ((Nat->Int)×(Nat->Int))):∀(n i:Nat) (R B:Nat->Int),(t.Tests.drop i).length<n->BdR R ->
  ∃R' B',BdR R'/\LeR R' R/\Qcd N t k n i R B=k (R',B'):=by
 have hl:=ht.l
 have hs:=ht.s
 intro n
 induction n with
 |zero=>intro j _ _ h;cases h
 |succ n ih=>
  intro i R B h hR
  rw[Qcd]
  cases hd:t.Tests.drop i with
  |nil=>
   have:=Qca hd
   rw[Xah (show ¬((i:Int)<t.Tests.length) by omega)]
   exact⟨R,B,hR,fun _=>Xbp _,rfl⟩
  |cons a l=>
   obtain⟨hg,hd',hlt⟩:=Qbn hd
   have ha:=ht.t a (Xac hg)
   rw[Xae (show(i:Int)<t.Tests.length by omega),Xak,Qcs,Qb8 hg,Xaa]
   obtain⟨R1,B1,h1,l1,e1⟩:=Zv1 (N:=N) ht ha (i:Int) (fun (q:(Nat->Int)×(Nat->Int))=>match q with |(y26,y27)=>Qcd N t k n (w64 ((i:Int)+1)) y26 y27) N 0 R B (by omega) (by omega) hR
   obtain⟨R2,B2,h2,l2,e2⟩:=ih (i+1) R1 B1 (dlt hd hd' h) h1
   refine⟨R2,B2,h2,fun i=>Xgz (l2 i) (l1 i),e1.trans ?_⟩
   show Qcd N t k n (w64 ((i:Int)+1)) R1 B1=_
   rw[Qa1,show(i:Int)+1=((i+1:Nat):Int) by omega,e2]
def Q4t {f g:Nat->Int}(h:LeR f g):∀l:List Nat,(l.map f).sum<=(l.map g).sum/\(¬l.map f=l.map g->(l.map f).sum<(l.map g).sum)
 |[]=>⟨Xbp _,fun h=>absurd rfl h⟩
 |a::l=>by
  obtain⟨i1,i2⟩:=Q4t h l
  have ha:=h a
  simp only[Xax,Xb0]
  refine⟨by omega,fun hn=>?_⟩
  by_cases e:f a=g a
  ·have:¬l.map f=l.map g:=fun e'=>hn (by rw[e,e'])
   have:=i2 this
   omega
  omega
def potR (f:Nat->Int):Int:=(arrI 144 f).sum
def Zpm {f:Nat->Int}(h:BdR f):∀l:List Nat,0<=(l.map f).sum/\(l.map f).sum<=1000000*l.length
 |[]=>by simp
 |a::l=>by
  have:=Zpm h l
  have:=h a
  simp only[Xax,Xb0,Xa5]
  omega
def Zpt {f:Nat->Int}(h:BdR f):0<=potR f/\potR f<=144000000:=by
 have:=Zpm h (List.range 144)
 rw[Xeu] at this
 exact⟨this.1,by have:=this.2;unfold potR arrI;omega⟩
def Zrl {N:Nat}{t:Qav}(hN:1000<=N) (ht:Qkn t) (k:(Nat->Int)×(Nat->Int)->Option ((Nat->Int)×(Nat->Int))):∀(n:Nat) (R B:Nat->Int),(potR R).toNat<n->BdR R ->
  ∃R' B',BdR R'/\Qbo N t k n R B=k (R',B'):=by
 have hl:=ht.l
 intro n
 induction n with
 |zero=>intro R _ h;cases h
 |succ n ih=>
  intro R B h hR
  rw[Qbo,Qcs]
  obtain⟨R1,B1,h1,l1,e1⟩:=Zv2 hN ht (fun (q:(Nat->Int)×(Nat->Int))=>match q with |(y14,y15)=>bif (arrI 144 y14==arrI 144 R) then k (y14,y15) else Qbo N t k n y14 y15) N 0 R B (by rw[Xap];omega) hR
  have e1':Qcd N t (fun (q:(Nat->Int)×(Nat->Int))=>match q with |(y14,y15)=>bif (arrI 144 y14==arrI 144 R) then k (y14,y15) else Qbo N t k n y14 y15) N 0 R B=bif (arrI 144 R1==arrI 144 R) then k (R1,B1) else Qbo N t k n R1 B1:=e1
  by_cases he:arrI 144 R1=arrI 144 R
  ·refine⟨R1,B1,h1,e1'.trans ?_⟩
   rw[Xbm.2 he,Xak]
  have hlt:=(Q4t l1 (List.range 144)).2 he
  have p1:=Zpt h1
  have:potR R1<potR R:=hlt
  obtain⟨R2,B2,h2,e2⟩:=ih R1 B1 (by omega) h1
  refine⟨R2,B2,h2,e1'.trans ?_⟩
  rw[Xct.2 he,Xai,e2]
def Zc3 {N:Nat}{t:Qav}(hN:150000000<=N) (ht:Qkn t):∃R B,BdR R/\Qgy N t=some (R,B):=by
 have hz:BdR fun _=>(0:Int):=fun _=>⟨Xbp 0,show(0:Int)<=1000000 by decide⟩
 unfold Qgy
 rw[Qcs]
 obtain⟨R1,B1,h1,e1⟩:=Zy5 (N:=N) (by omega) (fun (q:(Nat->Int)×(Nat->Int))=>match q with |(y3,y4)=>Qb0 (fun (q:(Nat->Int)×(Nat->Int))=>match q with |(y6,y7)=>some (y6,y7)) fun k8=>Qbo N t k8 N y3 y4) N 0 _ (fun _=>(0:Int)) (by omega) (by omega) hz
 have p1:=Zpt h1
 obtain⟨R2,B2,h2,e2⟩:=Zrl (N:=N) (by omega) ht (fun (q:(Nat->Int)×(Nat->Int))=>match q with |(y6,y7)=>some (y6,y7)) N R1 B1 (by omega) h1
 refine⟨R2,B2,h2,e1.trans ?_⟩
 show Qb0 (fun (q:(Nat->Int)×(Nat->Int))=>match q with |(y6,y7)=>some (y6,y7)) (fun k8=>Qbo N t k8 N R1 B1)=_
 rw[Qcs]
 exact e2
end
section
def Zjp {N:Nat}{t:Qav}(ht:Qkn t) {x:Qc8}(hx:Zeb t x) (a:Int) (l:List Qc8) (R B:Nat->Int):∃b,Qgx N x a l R B=some b:=by
 have hs:=ht.s
 have hf:=hx.f
 have hto:=hx.to
 unfold Qgx
 rw[chkT (ix12 (by omega) (by omega)),chkT (ix12 (by omega) (by omega))]
 exact⟨_,rfl⟩
def Zdn (N:Nat) {t:Qav}(ht:Qkn t) (a:Int) (l:List Qc8) (R B:Nat->Int):∀(n i:Nat),(t.Tests.drop i).length<n->∃e,Qa7 N t.Tests a (fun _=>some (-1)) l R B n i=some e:=by
 have hl:=ht.l
 intro n
 induction n with
 |zero=>intro i h;cases h
 |succ n ih=>
  intro i h
  rw[Qa7]
  cases hd:t.Tests.drop i with
  |nil=>
   have:=Qca hd
   rw[Xah (show ¬((i:Int)<t.Tests.length) by omega),Xai]
   exact⟨_,rfl⟩
  |cons x q=>
   obtain⟨hg,hd',hlt⟩:=Qbn hd
   have hx:=ht.t x (Xac hg)
   obtain⟨b,hb⟩:=Zjp (N:=N) ht hx a l R B
   rw[Xae (show(i:Int)<t.Tests.length by omega),Xak,Qb8 hg,Xaa,show(⟨x.From,x.To,(⟨x.Seen.Lo,x.Seen.Hi⟩:Qkb)⟩:Qc8)=x from rfl,hb,Xaa]
   cases b with
   |true=>exact⟨_,rfl⟩
   |false=>
    rw[Xai,Qa1,show(i:Int)+1=((i+1:Nat):Int) by omega]
    exact ih (i+1) (dlt hd hd' h)
def Zdq {N:Nat}{t:Qav}(hN:150000000<=N) (ht:Qkn t):Qdq N t=some (.inl ())\/∃R B,BdR R/\Qdq N t=some (.inr (R,B)):=by
 have hl:=ht.l
 obtain⟨R,B,hR,e⟩:=Zc3 hN ht
 obtain⟨c,hc⟩:=Zdn N ht t.Sites t.Tests R B N 0 (by rw[Xap];omega)
 unfold Qdq
 rw[e,Xaa]
 unfold Qi8 Qdy
 rw[Qcs]
 have hc':Qa7 N t.Tests t.Sites (fun _=>some (-1)) t.Tests R B N 0=some c:=hc
 rw[hc',Xaa,Xaa]
 cases decide (c>=0) with
 |true=>exact .inl rfl
 |false=>exact .inr ⟨R,B,hR,rfl⟩
def Znp {N:Nat}{t:Qav}(ht:Qkn t) {x:Qc8}(hx:Zeb t x) {R:Nat->Int}(hR:BdR R) (B:Nat->Int) (s:Int) (l:List Qc8) {u v:Int}(hu:0<=u/\u<12) (hv:0<=v/\v<12):∃n,Qhk N s l R B x u v=some n/\n<=1000000:=by
 have hs:=ht.s
 have hf:=hx.f
 have hto:=hx.to
 have hlo:=hx.lo
 have hhi:=hx.hi
 unfold Qhk
 rw[chkT (ix12 (by omega) (by omega)),chkT (ix12 hu.1 hu.2),chkT (ix12 hv.1 hv.2),chkT (ix12 (by omega) (by omega)),Xaa]
 have a1:=hR (x.From.toNat*12+u.toNat)
 have a2:=hR (v.toNat*12+x.To.toNat)
 refine⟨_,rfl,?_⟩
 rw[Qa1 (x:=x.Seen.Lo-_),Qa1]
 omega
def Zdc {N:Nat}{t:Qav}(ht:Qkn t) {R:Nat->Int}(hR:BdR R) (B:Nat->Int) {u v:Int}(hu:0<=u/\u<12) (hv:0<=v/\v<12):∀(n i:Nat) (a b:Int),(t.Tests.drop i).length<n->0<=a->a<=1000000 ->
  ∃a' b',0<=a'/\a'<=1000000/\Qde N t.Sites t.Tests R B (fun (q:Int×Int)=>match q with |(y2,y3)=>some (y2,y3)) u v n a b i=some (a',b'):=by
 have hl:=ht.l
 intro n
 induction n with
 |zero=>intro i _ _ h;cases h
 |succ n ih=>
  intro i a b h a0 a1
  rw[Qde]
  cases hd:t.Tests.drop i with
  |nil=>
   have:=Qca hd
   rw[Xah (show ¬((i:Int)<t.Tests.length) by omega),Xai]
   exact⟨a,b,a0,a1,rfl⟩
  |cons x q=>
   obtain⟨hg,hd',hlt⟩:=Qbn hd
   have hx:=ht.t x (Xac hg)
   obtain⟨m,hm,hm1⟩:=Znp (N:=N) ht hx hR B t.Sites t.Tests hu hv
   have hn:(t.Tests.drop (i+1)).length<n:=by rw[hd'];rw[hd] at h;simp at h;omega
   rw[Xae (show(i:Int)<t.Tests.length by omega),Xak,Qb8 hg,Xaa,show(⟨x.From,x.To,(⟨x.Seen.Lo,x.Seen.Hi⟩:Qkb)⟩:Qc8)=x from rfl,hm,Xaa,Qa1,show(i:Int)+1=((i+1:Nat):Int) by omega]
   by_cases hc:m>a
   ·rw[Xae hc,Xak]
    exact ih (i+1) m i hn (by omega) hm1
   rw[Xah hc,Xai]
   exact ih (i+1) a b hn a0 a1
def Zmn {N:Nat}{t:Qav}(hN:1000<=N) (ht:Qkn t) {R:Nat->Int}(hR:BdR R) (B:Nat->Int) {u v:Int}(hu:0<=u/\u<12) (hv:0<=v/\v<12):∃a b,0<=a/\a<=1000000/\Qgc N t.Sites t.Tests R B u v=some (a,b):=by
 have hl:=ht.l
 unfold Qgc
 cases (u==v) with
 |true=>exact⟨0,-1,Xbp 0,by decide,rfl⟩
 |false=>
  rw[Xai,Qcs]
  exact Zdc ht hR B hu hv N 0 0 (-1) (by rw[Xap];omega) (Xbp 0) (by decide)
def Zts {N:Nat}{t:Qav}(hN:1000<=N) (ht:Qkn t) {R:Nat->Int}(hR:BdR R) (B:Nat->Int) {u v:Int}(hu:0<=u/\u<12) (hv:0<=v/\v<12) (f:Int):∃c,Qh3 N t.Sites t.Tests R B u v f=some c:=by
 obtain⟨a,b,_,_,e⟩:=Zmn hN ht hR B hu hv
 unfold Qh3
 rw[e]
 exact⟨_,rfl⟩
structure Q31 (t:Qav) (n:Int):Prop where
 s:0<=n/\n<t.Sites
def Q8x {N:Nat}{t:Qav}(hN:1000<=N) (ht:Qkn t) {R:Nat->Int}(hR:BdR R) (B:Nat->Int) {b:Qbj}{x:Qb3}(hx:Q31 t x.Site) (hf:∀n∈b.Feeds,Q31 t n) (hl:b.Feeds.length<=10):∀(n i:Nat),(b.Feeds.drop i).length<n ->
  ∃e,Qcj N b.Feeds t.Sites (fun _=>some (-1)) t.Tests R B x.Site x.Stairs b.Inlets b.Feeds b.Factor b.Horizon n i=some e:=by
 have hs:=ht.s
 have hxs:=hx.s
 intro n
 induction n with
 |zero=>intro i h;cases h
 |succ n ih=>
  intro i h
  rw[Qcj]
  cases hd:b.Feeds.drop i with
  |nil=>
   have:=Qca hd
   rw[Xah (show ¬((i:Int)<b.Feeds.length) by omega),Xai]
   exact⟨_,rfl⟩
  |cons y q=>
   obtain⟨hg,hd',hlt⟩:=Qbn hd
   have hy:=(hf y (Xac hg)).s
   obtain⟨c,hc⟩:=Zts (N:=N) hN ht hR B (u:=x.Site) (v:=y) (by omega) (by omega) b.Factor
   rw[Xae (show(i:Int)<b.Feeds.length by omega),Xak,Qb8 hg,Xaa]
   unfold Qhr
   rw[hc,Xaa,Xaa]
   cases decide (c<b.Horizon) with
   |true=>exact⟨_,rfl⟩
   |false=>
    rw[Xai,Qa1,show(i:Int)+1=((i+1:Nat):Int) by omega]
    exact ih (i+1) (dlt hd hd' h)
def Zjn {N:Nat}{t:Qav}(hN:1000<=N) (ht:Qkn t) {R:Nat->Int}(hR:BdR R) (B:Nat->Int) {b:Qbj}{x:Qb3}(hx:Q31 t x.Site) (hf:∀n∈b.Feeds,Q31 t n) (hl:b.Feeds.length<=10):∃c,Qbk N t.Sites t.Tests R B b x=some c:=by
 obtain⟨e,he⟩:=Q8x (N:=N) hN ht hR B hx hf hl N 0 (by rw[Xap];omega)
 unfold Qbk Qfx Qgn
 rw[Qcs]
 have he':Qcj N b.Feeds t.Sites (fun _=>some (-1)) t.Tests R B x.Site x.Stairs b.Inlets b.Feeds b.Factor b.Horizon N 0=some e:=he
 rw[he',Xaa,Xaa]
 exact⟨_,rfl⟩
end
section
def Qr0 (N:Nat) (a lo hi:Int):Qim N a lo hi=some (btw a lo hi):=by
 unfold Qim btw
 rw[show decide (a>=lo)=decide (lo<=a) from rfl]
 cases decide (lo<=a)<;>rfl
def Qw7 (N:Nat) (t:Qav) (n:Int):Qkx N t n=some (decide (0<=n)&&decide (n<t.Sites)):=by
 unfold Qkx
 rw[show decide (n>=0)=decide (0<=n) from rfl]
 cases decide (0<=n)<;>rfl
def Zlx {t:Qav}{n:Int}(h:(decide (0<=n)&&decide (n<t.Sites))=true):0<=n/\n<t.Sites:=by simpa using h
def Q7y (N:Nat) (t:Qav) (hs:1<=t.Sites/\t.Sites<=12) (hl:t.Tests.length<=60):∀(n i:Nat),(t.Tests.drop i).length<n ->
  ∃e,Qe5 N t (fun _=>some 0) n i=some e/\(e=0->∀x∈t.Tests.drop i,Zeb t x):=by
 intro n
 induction n with
 |zero=>intro i h;cases h
 |succ n ih=>
  intro i h
  rw[Qe5]
  cases hd:t.Tests.drop i with
  |nil=>
   have:=Qca hd
   rw[Xah (show ¬((i:Int)<t.Tests.length) by omega),Xai]
   exact⟨0,rfl,fun _ x hx=>by cases hx⟩
  |cons a l=>
   obtain⟨hg,hd',hlt⟩:=Qbn hd
   rw[Xae (show(i:Int)<t.Tests.length by omega),Xak,Qb8 hg,Xaa,Qw7,Xaa,Qw7,Qr0,Qr0]
   have one:(1:Int)=0->∀x∈a::l,Zeb t x:=fun h=>absurd h (by decide)
   cases h1:(decide (0<=a.From)&&decide (a.From<t.Sites)) with
   |false=>exact⟨1,rfl,one⟩
   |true=>
   rw[show(!true)=false from rfl,Xai,Xaa]
   cases h2:(decide (0<=a.To)&&decide (a.To<t.Sites)) with
   |false=>exact⟨1,rfl,one⟩
   |true=>
   rw[show(!true)=false from rfl,Xai]
   by_cases h3:a.From=a.To
   ·rw[Xbm.2 h3];exact⟨1,rfl,one⟩
   rw[Xct.2 h3,Xai,Xaa]
   cases h4:btw a.Seen.Lo 0 1000000 with
   |false=>exact⟨1,rfl,one⟩
   |true=>
   rw[show(!true)=false from rfl,Xai,Xaa]
   cases h5:btw a.Seen.Hi 0 1000000 with
   |false=>exact⟨1,rfl,one⟩
   |true=>
   rw[show(!true)=false from rfl,Xai]
   by_cases h6:a.Seen.Lo>a.Seen.Hi
   ·rw[Xae h6];exact⟨1,rfl,one⟩
   rw[Xah h6,Xai,Qa1,show(i:Int)+1=((i+1:Nat):Int) by omega]
   obtain⟨e,he,hv⟩:=ih (i+1) (dlt hd hd' h)
   refine⟨e,he,fun h0 x hx=>?_⟩
   have q1:=Zlx h1
   have q2:=Zlx h2
   have q4:=Qeb.1 h4
   have q5:=Qeb.1 h5
   rcases Xa7.1 hx with rfl |hx
   ·exact⟨q1,q2,h3,by omega,by omega⟩
   exact hv h0 x (by rw[hd'];exact hx)
def Zgq {N:Nat}{t:Qav}(hN:1000<=N):∃e,Qjo N t=some e/\(e=0->Qkn t):=by
 unfold Qjo
 by_cases h1:(t.Tests.length:Int)>60
 ·rw[Xae h1];exact⟨3,rfl,fun h=>absurd h (by decide)⟩
 rw[Xah h1,Xai,Qr0,Xaa]
 cases h2:btw t.Sites 1 12 with
 |false=>exact⟨1,rfl,fun h=>absurd h (by decide)⟩
 |true=>
 have hs:=Qeb.1 h2
 rw[show(!true)=false from rfl,Xai,Qcs]
 obtain⟨e,he,hv⟩:=Q7y N t hs (by omega) N 0 (by rw[Xap];omega)
 exact⟨e,he,fun h0=>⟨by omega,hs,fun x hx=>hv h0 x (by rw[Xap];exact hx)⟩⟩
structure Qr4 (s:Qay):Prop where
 a:1<=s.Amount/\s.Amount<=1000000
 p:0<=s.Price/\s.Price<=1000
structure Qtg (l:List Qay):Prop where
 n:1<=l.length/\l.length<=6
 s:∀x∈l,Qr4 x
 r:∀(j:Nat) (a c:Qay),l[j+1]? = some a->l[j]? = some c->c.Price<a.Price
structure Qo5 (t:Qav) (b:Qbj):Prop where
 il:1<=b.Inlets.length/\b.Inlets.length<=10
 fl:1<=b.Feeds.length/\b.Feeds.length<=10
 fa:1000<=b.Factor/\b.Factor<=100000
 ho:0<=b.Horizon/\b.Horizon<=100000000
 inl:∀x∈b.Inlets,Q31 t x.Site/\Qtg x.Stairs
 fds:∀n∈b.Feeds,Q31 t n
 dis:∀(i j:Nat) x y,b.Inlets[i]? = some x->b.Inlets[j]? = some y->j<i->y.Site≠x.Site
 fdn:∀y∈b.Feeds,∀x∈b.Inlets,x.Site≠y
 frs:∀(i:Nat) x c,b.Feeds[i]? = some x->0<i->b.Feeds[i-1]? = some c->c<x
def Zrc (N:Nat) (k:Unit->Option Int) (x:Qb3) (hx:x.Stairs.length<=6):∀(n i:Nat),(x.Stairs.drop i).length<n ->
  Qcn N k x n i=some 1\/((∀(j:Nat) a,i<=j->x.Stairs[j]? = some a->Qr4 a/\∀c,0<j->x.Stairs[j-1]? = some c->c.Price<a.Price)/\Qcn N k x n i=k ()):=by
 intro n
 induction n with
 |zero=>intro i h;cases h
 |succ n ih=>
  intro i h
  rw[Qcn]
  cases hd:x.Stairs.drop i with
  |nil=>
   have:=Qca hd
   rw[Xah (show ¬((i:Int)<x.Stairs.length) by omega),Xai]
   refine .inr ⟨fun j a hj ha=>?_,rfl⟩
   have:=(Xad.1 ha).1
   omega
  |cons y q=>
   obtain⟨hg,hd',hlt⟩:=Qbn hd
   rw[Xae (show(i:Int)<x.Stairs.length by omega),Xak,Qb8 hg,Xaa,Qr0,Xaa,Qr0]
   cases h1:btw y.Amount 1 1000000 with
   |false=>exact .inl rfl
   |true=>
   rw[show(!true)=false from rfl,Xai,Xaa]
   cases h2:btw y.Price 0 1000 with
   |false=>exact .inl rfl
   |true=>
   rw[show(!true)=false from rfl,Xai]
   have q1:=Qeb.1 h1
   have q2:=Qeb.1 h2
   have e1:w64 ((i:Int)+1)=((i+1:Nat):Int):=by rw[Qa1];omega
   have hn:(x.Stairs.drop (i+1)).length<n:=by rw[hd'];rw[hd] at h;simp at h;omega
   rw[e1]
   have fin:(∀c,0<i->x.Stairs[i-1]? = some c->c.Price<y.Price)->Qcn N k x n ((i+1:Nat):Int)=some 1\/((∀(j:Nat) a,i<=j->x.Stairs[j]? = some a->Qr4 a/\∀c,0<j->x.Stairs[j-1]? = some c->c.Price<a.Price)/\Qcn N k x n ((i+1:Nat):Int)=k ()):=fun hr=>by
    rcases ih (i+1) hn with e |⟨hp,e⟩
    ·exact .inl e
    refine .inr ⟨fun j a hj ha=>?_,e⟩
    rcases Xbj hj with rfl |hlt'
    ·rw[hg] at ha
     cases ha
     exact⟨⟨q1,q2⟩,hr⟩
    exact hp j a hlt' ha
   by_cases hp:(i:Int)>0
   ·rw[Xae hp,Xak]
    obtain⟨c,hc⟩:∃c,x.Stairs[i-1]? = some c:=⟨_,Xab (by omega)⟩
    rw[show w64 ((i:Int)-1)=((i-1:Nat):Int) by rw[Qa1];omega,Qb8 hc,Xaa]
    by_cases hpr:y.Price<=c.Price
    ·rw[Xae hpr];exact .inl rfl
    rw[Xah hpr,Xai]
    exact fin fun c' _ hc'=>by rw[hc] at hc';cases hc';omega
   rw[Xah hp,Xai]
   exact fin fun c' h0 _=>absurd h0 (by omega)
def Zvz (N:Nat) (b:Qbj) (x:Qb3) (k:Unit->Option Int) (hb:b.Inlets.length<=10) (m:Nat) (hm:m<b.Inlets.length):∀(n i:Nat),m-i<n->i<=m->Qeg N b m x k n i=some 1\/((∀(j:Nat) y,i<=j->j<m->b.Inlets[j]? = some y->y.Site≠x.Site)/\Qeg N b m x k n i=k ()):=by
 intro n
 induction n with
 |zero=>intro i h;cases h
 |succ n ih=>
  intro i h hi
  rw[Qeg]
  by_cases hlt:i<m
  ·obtain⟨c,hc⟩:∃c,b.Inlets[i]? = some c:=⟨_,Xab (by omega)⟩
   rw[Xae (show(i:Int)<m by omega),Xak,Qb8 hc,Xaa]
   cases hcs:(c.Site==x.Site) with
   |true=>exact .inl rfl
   |false=>
    rw[Xai,Qa1,show(i:Int)+1=((i+1:Nat):Int) by omega]
    rcases ih (i+1) (by omega) (by omega) with e |⟨hq,e⟩
    ·exact .inl e
    refine .inr ⟨fun j y hj hm hy=>?_,e⟩
    rcases Xbj hj with rfl |hlt'
    ·rw[hc] at hy
     cases hy
     exact Xct.1 hcs
    exact hq j y hlt' hm hy
  rw[Xah (show ¬(i:Int)<m by omega)]
  exact .inr ⟨fun j y hj hm _=>by omega,rfl⟩
def Zr3 {N:Nat}(hN:1000<=N) (t:Qav) (b:Qbj) (k:Unit->Option Int) (hb:b.Inlets.length<=10):∀(n i:Nat),(b.Inlets.drop i).length<n ->
  Qc9 N t b k n i=some 1\/((∀(j:Nat) x,i<=j->b.Inlets[j]? = some x->(Q31 t x.Site/\Qtg x.Stairs)/\∀(l:Nat) y,b.Inlets[l]? = some y->l<j->y.Site≠x.Site)/\Qc9 N t b k n i=k ()):=by
 intro n
 induction n with
 |zero=>intro i h;cases h
 |succ n ih=>
  intro i h
  rw[Qc9]
  cases hd:b.Inlets.drop i with
  |nil=>
   have:=Qca hd
   rw[Xah (show ¬((i:Int)<b.Inlets.length) by omega),Xai]
   exact .inr ⟨fun j x hj hx=>by have:=(Xad.1 hx).1;omega,rfl⟩
  |cons x q=>
   obtain⟨hg,hd',hlt⟩:=Qbn hd
   rw[Xae (show(i:Int)<b.Inlets.length by omega),Xak,Qcs,Qb8 hg,Xaa,Qcs,Qw7,Xaa]
   cases h1:(decide (0<=x.Site)&&decide (x.Site<t.Sites)) with
   |false=>exact .inl rfl
   |true=>
   rw[show(!true)=false from rfl,Xai,Qr0,Xaa]
   cases h2:btw x.Stairs.length 1 6 with
   |false=>exact .inl rfl
   |true=>
   have q2:=Qeb.1 h2
   rw[show(!true)=false from rfl,Xai,Qcs]
   have e1:w64 ((i:Int)+1)=((i+1:Nat):Int):=by rw[Qa1];omega
   rw[e1]
   rcases Zvz N b x (fun _=>Qcn N (fun _=>Qc9 N t b k n ((i+1:Nat):Int)) x N 0) hb i hlt N 0 (by omega) (Xbg _) with e |⟨hu,e⟩
   ·exact .inl e
   rcases Zrc N (fun _=>Qc9 N t b k n ((i+1:Nat):Int)) x (by omega) N 0 (by rw[Xap];omega) with e' |⟨hp,e'⟩
   ·exact .inl (e.trans e')
   rcases ih (i+1) (dlt hd hd' h) with e3 |⟨hq,e3⟩
   ·exact .inl (e.trans (e'.trans e3))
   refine .inr ⟨fun j y hj hy=>?_,e.trans (e'.trans e3)⟩
   rcases Xbj hj with rfl |hlt'
   ·rw[hg] at hy
    cases hy
    refine⟨⟨⟨Zlx h1⟩,⟨by omega,by omega⟩,fun s hs=>?_,fun j a c ha hc=>?_⟩,fun l z hz hl=>hu l z (Xbg _) hl hz⟩
    ·obtain⟨j,hj⟩:=Xcj hs
     exact(hp j s (Xbg _) hj).1
    exact(hp (j+1) a (Xbg _) ha).2 c (Nat.succ_pos _) hc
   exact hq j y hlt' hy
def Zwj (N:Nat) (b:Qbj) (k:Unit->Option Int) (hb:b.Inlets.length<=10) (m:Nat) {y:Int}(hm:b.Feeds[m]? = some y):∀(n i:Nat),(b.Inlets.drop i).length<n->Qda N b m k n i=some 1\/((∀x∈b.Inlets.drop i,x.Site≠y)/\Qda N b m k n i=k ()):=by
 intro n
 induction n with
 |zero=>intro i h;cases h
 |succ n ih=>
  intro i h
  rw[Qda]
  cases hd:b.Inlets.drop i with
  |nil=>
   have:=Qca hd
   rw[Xah (show ¬((i:Int)<b.Inlets.length) by omega),Xai]
   exact .inr ⟨fun x hx=>(by cases hx),rfl⟩
  |cons x q=>
   obtain⟨hg,hd',hlt⟩:=Qbn hd
   rw[Xae (show(i:Int)<b.Inlets.length by omega),Xak,Qb8 hg,Xaa,Qb8 hm,Xaa]
   cases hxy:(x.Site==y) with
   |true=>exact .inl rfl
   |false=>
    rw[Xai,Qa1,show(i:Int)+1=((i+1:Nat):Int) by omega]
    rcases ih (i+1) (dlt hd hd' h) with e |⟨hq,e⟩
    ·exact .inl e
    refine .inr ⟨fun z hz=>?_,e⟩
    rcases Xa7.1 hz with rfl |hz
    ·exact Xct.1 hxy
    exact hq z (by rw[hd'];exact hz)
def Zwk {N:Nat}(hN:1000<=N) (t:Qav) (b:Qbj) (k:Unit->Option Int) (hb:b.Inlets.length<=10) (hf:b.Feeds.length<=10):∀(n i:Nat),(b.Feeds.drop i).length<n ->
  Qco N t b k n i=some 1\/((∀(j:Nat) y,i<=j->b.Feeds[j]? = some y->Q31 t y/\(∀x∈b.Inlets,x.Site≠y)/\∀c,0<j->b.Feeds[j-1]? = some c->c<y)/\Qco N t b k n i=k ()):=by
 intro n
 induction n with
 |zero=>intro i h;cases h
 |succ n ih=>
  intro i h
  rw[Qco]
  cases hd:b.Feeds.drop i with
  |nil=>
   have:=Qca hd
   rw[Xah (show ¬((i:Int)<b.Feeds.length) by omega),Xai]
   exact .inr ⟨fun j x hj hx=>by have:=(Xad.1 hx).1;omega,rfl⟩
  |cons x q=>
   obtain⟨hg,hd',hlt⟩:=Qbn hd
   have e1:w64 ((i:Int)+1)=((i+1:Nat):Int):=by rw[Qa1];omega
   rw[Xae (show(i:Int)<b.Feeds.length by omega),Xak,Qcs,Qcs,Qb8 hg,Xaa,Qw7,Xaa,e1]
   cases h1:(decide (0<=x)&&decide (x<t.Sites)) with
   |false=>exact .inl rfl
   |true=>
   rw[show(!true)=false from rfl,Xai]
   have fin:(∀c,0<i->b.Feeds[i-1]? = some c->c<x)->Qda N b i (fun _=>Qco N t b k n ((i+1:Nat):Int)) N 0=some 1\/((∀(j:Nat) y,i<=j->b.Feeds[j]? = some y->Q31 t y/\(∀x∈b.Inlets,x.Site≠y)/\∀c,0<j->b.Feeds[j-1]? = some c->c<y)/\Qda N b i (fun _=>Qco N t b k n ((i+1:Nat):Int)) N 0=k ()):=fun hr=>by
    rcases Zwj N b (fun _=>Qco N t b k n ((i+1:Nat):Int)) hb i hg N 0 (by rw[Xap];omega) with e |⟨hu,e⟩
    ·exact .inl e
    rw[Xap] at hu
    rcases ih (i+1) (dlt hd hd' h) with e3 |⟨hq,e3⟩
    ·exact .inl (e.trans e3)
    refine .inr ⟨fun j y hj hy=>?_,e.trans e3⟩
    rcases Xbj hj with rfl |hlt'
    ·rw[hg] at hy
     cases hy
     exact⟨⟨Zlx h1⟩,hu,hr⟩
    exact hq j y hlt' hy
   by_cases hp:(i:Int)>0
   ·rw[Xae hp,Xak]
    obtain⟨c,hc⟩:∃c,b.Feeds[i-1]? = some c:=⟨_,Xab (by omega)⟩
    rw[show w64 ((i:Int)-1)=((i-1:Nat):Int) by rw[Qa1];omega,Qb8 hc,Xaa]
    by_cases hxc:x<=c
    ·rw[Xae hxc];exact .inl rfl
    rw[Xah hxc,Xai]
    exact fin fun c' _ hc'=>by rw[hc] at hc';cases hc';omega
   rw[Xah hp,Xai]
   exact fin fun c' h0 _=>absurd h0 (by omega)
def Zju {N:Nat}{t:Qav}{b:Qbj}(hN:1000<=N):∃e,Qjp N t b=some e/\(e=0->Qkn t/\Qo5 t b):=by
 unfold Qjp
 obtain⟨e,he,ht⟩:=Zgq (N:=N) (t:=t) hN
 have one:(1:Int)=0->Qkn t/\Qo5 t b:=fun h=>absurd h (by decide)
 rw[he,Xaa]
 by_cases h0:e=0
 ·have hT:=ht h0
  subst h0
  rw[show((0:Int) != 0)=false from rfl,Xai,Qcs,Qr0,Xaa]
  cases h1:btw b.Inlets.length 1 10 with
  |false=>exact⟨1,rfl,one⟩
  |true=>
  rw[show(!true)=false from rfl,Xai,Qr0,Xaa]
  cases h2:btw b.Feeds.length 1 10 with
  |false=>exact⟨1,rfl,one⟩
  |true=>
  rw[show(!true)=false from rfl,Xai,Qr0,Xaa]
  cases h3:btw b.Factor 1000 100000 with
  |false=>exact⟨1,rfl,one⟩
  |true=>
  rw[show(!true)=false from rfl,Xai,Qr0,Xaa]
  cases h4:btw b.Horizon 0 100000000 with
  |false=>exact⟨1,rfl,one⟩
  |true=>
  rw[show(!true)=false from rfl,Xai,Qcs]
  have q1:=Qeb.1 h1
  have q2:=Qeb.1 h2
  rcases Zr3 hN t b (fun _=>Qb0 (fun _=>some 0) fun k6:Unit->Option Int=>Qco N t b k6 N 0) (by omega) N 0 (by rw[Xap];omega) with e3 |⟨hi,e3⟩
  ·exact⟨1,e3,one⟩
  rcases Zwk hN t b (fun _=>some 0) (by omega) (by omega) N 0 (by rw[Xap];omega) with e4 |⟨hf,e4⟩
  ·exact⟨1,e3.trans ((Qcs _ _).trans e4),one⟩
  refine⟨0,e3.trans ((Qcs _ _).trans e4),fun _=>⟨hT,⟨by omega,by omega⟩,⟨by omega,by omega⟩,Qeb.1 h3,Qeb.1 h4,fun x hx=>?_,fun y hy=>?_,fun i j x y hx hy hj=>(hi i x (Xbg _) hx).2 j y hy hj,fun y hy=>?_,fun i x c hx h0 hc=>(hf i x (Xbg _) hx).2.2 c h0 hc⟩⟩
  ·obtain⟨j,hj⟩:=Xcj hx
   exact(hi j x (Xbg _) hj).1
  ·obtain⟨j,hj⟩:=Xcj hy
   exact(hf j y (Xbg _) hj).1
  obtain⟨j,hj⟩:=Xcj hy
  exact(hf j y (Xbg _) hj).2.1
 rw[show(e != 0)=true from Xeb.2 h0,Xak]
 exact⟨e,rfl,fun h=>absurd h h0⟩
end
section
def Q7z (N:Nat) (t:Qav) (k:List Qc8->Option Qav) (hl:t.Tests.length<=60):∀(n i:Nat) (acc:List Qc8),(t.Tests.drop i).length<n->acc.length=i->Qgu N t k n i acc=k (acc++t.Tests.drop i):=by
 intro n
 induction n with
 |zero=>intro i _ h;cases h
 |succ n ih=>
  intro i acc h ha
  rw[Qgu]
  cases hd:t.Tests.drop i with
  |nil=>
   have:=Qca hd
   rw[Xah (show ¬((i:Int)<t.Tests.length) by omega),Xai,Xbn]
  |cons x q=>
   obtain⟨hg,hd',hlt⟩:=Qbn hd
   rw[Xae (show(i:Int)<t.Tests.length by omega),Xak,Qb8 hg,Xaa,chkT (Xae (by simp only[Xa5,Xcg];omega)),Qa1,show(i:Int)+1=((i+1:Nat):Int) by omega,
    ih (i+1) _ (dlt hd hd' h) (by simp[ha]),hd',Xan]
   rfl
def Zgr {N:Nat}{t:Qav}(hN:1000<=N) (ht:Qkn t):Qh9 N t=some t:=by
 have hl:=ht.l
 unfold Qh9
 rw[Qcs]
 refine(Q7z N t _ hl N 0 [] (by rw[Xap];omega) rfl).trans ?_
 rw[Xap,Xa9]
def Q4x (N:Nat) (x:Qb3) (k:List Qb3×List Int×List Qay->Option Qbj) (a:List Qb3) (f:List Int) (hl:x.Stairs.length<=6):∀(n i:Nat) (acc:List Qay),(x.Stairs.drop i).length<n->acc.length=i->Qgv N x k n i a f acc=k (a,f,acc++x.Stairs.drop i):=by
 intro n
 induction n with
 |zero=>intro i _ h;cases h
 |succ n ih=>
  intro i acc h ha
  rw[Qgv]
  cases hd:x.Stairs.drop i with
  |nil=>
   have:=Qca hd
   rw[Xah (show ¬((i:Int)<x.Stairs.length) by omega),Xai,Xbn]
  |cons y q=>
   obtain⟨hg,hd',hlt⟩:=Qbn hd
   rw[Xae (show(i:Int)<x.Stairs.length by omega),Xak,Qb8 hg,Xaa,chkT (Xae (by simp only[Xa5,Xcg];omega)),Qa1,show(i:Int)+1=((i+1:Nat):Int) by omega,
    ih (i+1) _ (dlt hd hd' h) (by simp[ha]),hd',Xan]
   rfl
def Q5y {N:Nat}(hN:1000<=N) (b:Qbj) (k:List Qb3×List Int->Option Qbj) (f:List Int) (hl:b.Inlets.length<=10) (hs:∀x∈b.Inlets,x.Stairs.length<=6):∀(n i:Nat) (acc:List Qb3),(b.Inlets.drop i).length<n->acc.length=i->Qfz N b k n i acc f=k (acc++b.Inlets.drop i,f):=by
 intro n
 induction n with
 |zero=>intro i _ h;cases h
 |succ n ih=>
  intro i acc h ha
  rw[Qfz]
  cases hd:b.Inlets.drop i with
  |nil=>
   have:=Qca hd
   rw[Xah (show ¬((i:Int)<b.Inlets.length) by omega),Xai,Xbn]
  |cons x q=>
   obtain⟨hg,hd',hlt⟩:=Qbn hd
   have h6:=hs x (Xac hg)
   rw[Xae (show(i:Int)<b.Inlets.length by omega),Xak,Qcs,Qb8 hg,Xaa,Qcs]
   refine(Q4x N x _ acc f h6 N 0 [] (by rw[Xap];omega) rfl).trans ?_
   rw[Xap,Xa9]
   refine(chkT (Xae (by simp only[Xa5,Xcg];omega))).trans ?_
   show Qfz N b k n (w64 ((i:Int)+1)) (acc++[x]) f=_
   rw[Qa1,show(i:Int)+1=((i+1:Nat):Int) by omega,ih (i+1) _ (dlt hd hd' h) (by simp[ha]),hd',Xan]
   rfl
def Zjv {N:Nat}{t:Qav}{b:Qbj}(hN:1000<=N) (hb:Qo5 t b):Qia N b=some b:=by
 have hi:=hb.il
 have hf:=hb.fl
 unfold Qia
 rw[chkT (Xae (by simp only[Xcg];omega)),Qcs]
 refine(Q5y hN b _ _ hi.2 (fun x hx=>(hb.inl x hx).2.n.2) N 0 [] (by rw[Xap];omega) rfl).trans ?_
 rw[Xap,Xa9,Xa9]
def Zjr {N:Nat}{t:Qav}(hN:1000<=N) (ht:Qkn t):Qhs N t=some 0:=by
 have hl:=ht.l
 have hs:=ht.s
 have loop:∀(n i:Nat),(t.Tests.drop i).length<n->Qeu N t (fun _=>some 0) n i=some 0:=by
  intro n
  induction n with
  |zero=>intro i h;cases h
  |succ n ih=>
   intro i h
   rw[Qeu]
   cases hd:t.Tests.drop i with
   |nil=>
    have:=Qca hd
    rw[Xah (show ¬((i:Int)<t.Tests.length) by omega),Xai]
   |cons a l=>
    obtain⟨hg,hd',hlt⟩:=Qbn hd
    obtain⟨q1,q2,q3,q4,q5⟩:=ht.t a (Xac hg)
    rw[Xae (show(i:Int)<t.Tests.length by omega),Xak,Qb8 hg,Xaa,Q2q hs,Xaa,Q2q hs,Qeb.2 ⟨q1.1,show a.From<=t.Sites-1 by omega⟩,show(!true)=false from rfl,Xai,Xaa,Qeb.2 ⟨q2.1,show a.To<=t.Sites-1 by omega⟩,show(!true)=false from rfl,Xai,Xct.2 q3,Xai,Xah (show ¬a.Seen.Lo<0 by omega),Xai,Xah (show ¬a.Seen.Lo>a.Seen.Hi by omega),Xai,Xah (show ¬a.Seen.Hi>1000000 by omega),Xai,Qa1,show(i:Int)+1=((i+1:Nat):Int) by omega]
    exact ih (i+1) (dlt hd hd' h)
 unfold Qhs
 rw[Xah (show ¬(t.Tests.length:Int)>60 by omega),Xai,Qib,Xaa,Qeb.2 hs,show(!true)=false from rfl,Xai,Qcs]
 exact loop N 0 (by rw[Xap];omega)
def Q46 (N:Nat) (l:List Int) (hl:l.length<=10) (hr:∀(i:Nat) x c,l[i]? = some x->0<i->l[i-1]? = some c->c<x):∀(n i:Nat),(l.drop i).length<n->Qdr N l (fun _=>some true) n i=some true:=by
 intro n
 induction n with
 |zero=>intro i h;cases h
 |succ n ih=>
  intro i h
  rw[Qdr]
  cases hd:l.drop i with
  |nil=>
   have:=Qca hd
   rw[Xah (show ¬((i:Int)<l.length) by omega),Xai]
  |cons x q=>
   obtain⟨hg,hd',hlt⟩:=Qbn hd
   have hn:=ih (i+1) (dlt hd hd' h)
   rw[Xae (show(i:Int)<l.length by omega),Xak,show w64 ((i:Int)+1)=((i+1:Nat):Int) by rw[Qa1];omega]
   by_cases hp:(i:Int)>0
   ·obtain⟨c,hc⟩:∃c,l[i-1]? = some c:=⟨_,Xab (by omega)⟩
    rw[Xae hp,Xak,show w64 ((i:Int)-1)=((i-1:Nat):Int) by rw[Qa1];omega,Qb8 hc,Xaa,show Qg1 N c=some c from rfl,Xaa,Qb8 hg,Xaa,show Qg1 N x=some x from rfl,Xaa]
    have:=hr i x c hg (by omega) hc
    rw[Xah (show ¬c>=x by omega),Xai]
    exact hn
   rw[Xah hp,Xai]
   exact hn
def Q45 (N:Nat) (l:List Qay) (hl:l.length<=6) (hr:∀(j:Nat) (a c:Qay),l[j+1]? = some a->l[j]? = some c->c.Price<a.Price):∀(n i:Nat),(l.drop i).length<n->Qcc N l (fun _=>some true) n i=some true:=by
 intro n
 induction n with
 |zero=>intro i h;cases h
 |succ n ih=>
  intro i h
  rw[Qcc]
  cases hd:l.drop i with
  |nil=>
   have:=Qca hd
   rw[Xah (show ¬((i:Int)<l.length) by omega),Xai]
  |cons x q=>
   obtain⟨hg,hd',hlt⟩:=Qbn hd
   have hn:=ih (i+1) (dlt hd hd' h)
   rw[Xae (show(i:Int)<l.length by omega),Xak,show w64 ((i:Int)+1)=((i+1:Nat):Int) by rw[Qa1];omega]
   by_cases hp:(i:Int)>0
   ·obtain⟨c,hc⟩:∃c,l[i-1]? = some c:=⟨_,Xab (by omega)⟩
    rw[Xae hp,Xak,show w64 ((i:Int)-1)=((i-1:Nat):Int) by rw[Qa1];omega,Qb8 hc,Xaa,show Qge N c=some c.Price from rfl,Xaa,Qb8 hg,Xaa,show Qge N x=some x.Price from rfl,Xaa]
    have:=hr (i-1) x c (by rw[show i-1+1=i by omega];exact hg) hc
    rw[Xah (show ¬c.Price>=x.Price by omega),Xai]
    exact hn
   rw[Xah hp,Xai]
   exact hn
def Ztu (N:Nat) {s:Qay}(h:Qr4 s):Qhl N s=some false:=by
 unfold Qhl
 rw[Qib,Qib,Xaa,Xaa,Qeb.2 h.a,Qeb.2 h.p]
 rfl
def Zjx (N:Nat) (l:List Qay) (hl:l.length<=6) (hs:∀x∈l,Qr4 x):∀(n i:Nat),(l.drop i).length<n->Qa4 N l (fun _=>some (-1)) n i=some (-1):=by
 intro n
 induction n with
 |zero=>intro i h;cases h
 |succ n ih=>
  intro i h
  rw[Qa4]
  cases hd:l.drop i with
  |nil=>
   have:=Qca hd
   rw[Xah (show ¬((i:Int)<l.length) by omega),Xai]
  |cons x q=>
   obtain⟨hg,hd',hlt⟩:=Qbn hd
   have hn:=ih (i+1) (dlt hd hd' h)
   have hb:=Ztu N (hs x (Xac hg))
   rw[Xae (show(i:Int)<l.length by omega),Xak,Qb8 hg,Xaa,hb,Xaa,show w64 ((i:Int)+1)=((i+1:Nat):Int) by rw[Qa1];omega,Xai]
   exact hn
def Zij {N:Nat}(hN:1000<=N) {x:Qb3}(hx:Qtg x.Stairs):Qiq N x=some true:=by
 have h6:=hx.n
 unfold Qiq
 have h1:=Q45 N x.Stairs h6.2 hx.r N 0 (by rw[Xap];omega)
 have h2:=Zjx N x.Stairs h6.2 hx.s N 0 (by rw[Xap];omega)
 have h1':Qfb N x.Stairs=some true:=by unfold Qfb;rw[Qcs];exact h1
 have h2':Qcm N x.Stairs=some false:=by
  unfold Qcm Qdo
  rw[Qcs]
  have:Qa4 N x.Stairs (fun _=>some (-1)) N 0=some (-1):=h2
  rw[this,Xaa]
  rfl
 rw[Qib,Xaa,h1',h2',Qeb.2 (show(1:Int)<=x.Stairs.length/\(x.Stairs.length:Int)<=6 by omega)]
 rfl
def Q8o (N:Nat) {t:Qav}{b:Qbj}(ht:Qkn t) (hb:Qo5 t b) (u:Nat->Bool) (hu:∀n∈b.Feeds,u n.toNat=false):∀(n i:Nat),(b.Feeds.drop i).length<n->Qd8 N t b u (fun _=>some 0) n i=some 0:=by
 have hs:=ht.s
 have hl:=hb.fl
 intro n
 induction n with
 |zero=>intro i h;cases h
 |succ n ih=>
  intro i h
  rw[Qd8]
  cases hd:b.Feeds.drop i with
  |nil=>
   have:=Qca hd
   rw[Xah (show ¬((i:Int)<b.Feeds.length) by omega),Xai]
  |cons x q=>
   obtain⟨hg,hd',hlt⟩:=Qbn hd
   have hx:=(hb.fds x (Xac hg)).s
   rw[Xae (show(i:Int)<b.Feeds.length by omega),Xak,Qb8 hg,Xaa,Q2q hs,Xaa,Qeb.2 ⟨hx.1,show x<=t.Sites-1 by omega⟩,show(!true)=false from rfl,Xai,chkT (ix12 (by omega) (by omega)),hu x (Xac hg),Xai,show w64 ((i:Int)+1)=((i+1:Nat):Int) by rw[Qa1];omega]
   exact ih (i+1) (dlt hd hd' h)
def Q5x {N:Nat}(hN:1000<=N) {t:Qav}{b:Qbj}(ht:Qkn t) (hb:Qo5 t b):∀(n i:Nat) (u:Nat->Bool),(b.Inlets.drop i).length<n->(∀k,u k=true->∃j y,j<i/\b.Inlets[j]? = some y/\y.Site.toNat=k)->Qev N t b (fun y5=>Qb0 (fun _=>some 0) fun k7:Unit->Option Int=>Qd8 N t b y5 k7 N 0) n i u=some 0:=by
 have hs:=ht.s
 have hl:=hb.il
 have hf:=hb.fl
 intro n
 induction n with
 |zero=>intro i _ h;cases h
 |succ n ih=>
  intro i u h hu
  rw[Qev]
  cases hd:b.Inlets.drop i with
  |nil=>
   have:=Qca hd
   rw[Xah (show ¬((i:Int)<b.Inlets.length) by omega),Xai,Qcs]
   refine Q8o N ht hb u (fun y hy=>?_) N 0 (by rw[Xap];omega)
   cases hc:u y.toNat with
   |false=>rfl
   |true=>
    obtain⟨j,x,_,hx,e⟩:=hu _ hc
    have h1:=(hb.inl x (Xac hx)).1.s
    have h2:=(hb.fds y hy).s
    exact absurd (show x.Site=y by omega) (hb.fdn y hy x (Xac hx))
  |cons x q=>
   obtain⟨hg,hd',hlt⟩:=Qbn hd
   have hv:=hb.inl x (Xac hg)
   have hx:=hv.1.s
   have hux:u x.Site.toNat=false:=by
    cases hc:u x.Site.toNat with
    |false=>rfl
    |true=>
     obtain⟨j,y,hj,hy,e⟩:=hu _ hc
     have h1:=(hb.inl y (Xac hy)).1.s
     exact absurd (show y.Site=x.Site by omega) (hb.dis i j x y hg hy hj)
   rw[Xae (show(i:Int)<b.Inlets.length by omega),Xak,Qb8 hg,Xaa,Q2q hs,Xaa,Qeb.2 ⟨hx.1,show x.Site<=t.Sites-1 by omega⟩,show(!true)=false from rfl,Xai,chkT (ix12 (by omega) (by omega)),hux,Xai,Zij hN hv.2,Xaa,show(!true)=false from rfl,Xai,chkT (ix12 (by omega) (by omega)),show w64 ((i:Int)+1)=((i+1:Nat):Int) by rw[Qa1];omega]
   refine ih (i+1) _ (dlt hd hd' h) fun k hk=>?_
   unfold setF at hk
   split at hk
   ·rename_i e
    exact⟨i,x,by omega,hg,by omega⟩
   obtain⟨j,y,a,b',c⟩:=hu k hk
   exact⟨j,y,by omega,b',c⟩
def Qup {N:Nat}{t:Qav}{b:Qbj}(hN:1000<=N) (ht:Qkn t) (hb:Qo5 t b):Qeh N t b=some 0:=by
 have hl:=hb.il
 have hf:=hb.fl
 unfold Qeh
 have hr:=Q46 N b.Feeds hf.2 hb.frs N 0 (by rw[Xap];omega)
 have hr':Qh2 N b.Feeds=some true:=by unfold Qh2;rw[Qcs];exact hr
 rw[Zjr hN ht,Xaa,show((0:Int) != 0)=false from rfl,Xai,Qcs,Qib,Xaa,Qeb.2 (show(1:Int)<=b.Inlets.length/\(b.Inlets.length:Int)<=10 by omega),show(!true)=false from rfl,Xai,Qib,Xaa,Qeb.2 (show(1:Int)<=b.Feeds.length/\(b.Feeds.length:Int)<=10 by omega),show(!true)=false from rfl,Xai,Qib,Xaa,Qeb.2 hb.fa,show(!true)=false from rfl,Xai,Qib,Xaa,Qeb.2 hb.ho,show(!true)=false from rfl,Xai,hr',Xaa,show(!true)=false from rfl,Xai,Qcs]
 exact Q5x hN ht hb N 0 _ (by rw[Xap];omega) fun k hk=>by cases hk
end
section
def keyP (x:Qae):Int:=x.Stair.Price
def Srt (l:List Qae):Prop:=l.Pairwise fun a b=>keyP a<=keyP b
def flt (k:Int) (l:List Qae):List Qae:=l.filter fun a=>decide (keyP a=k)
def Qln (l:List Qae):Prop:=∀x∈l,-1000000<=x.Stair.Price/\x.Stair.Price<=1000000
theorem Q8p (x:Qae):(⟨(⟨x.Stair.Amount,x.Stair.Price⟩:Qay),x.inlet⟩:Qae)=x:=rfl
theorem Qkh (k:Int) (l r:List Qae):flt k (l++r)=flt k l++flt k r:=Xe9 ..
theorem Q3a {k:Int}{l:List Qae}(h:∀x∈l,keyP x≠k):flt k l=[]:=by
 unfold flt
 rw[List.filter_eq_nil_iff]
 intro x hx
 simpa using h x hx
theorem Q3b {k:Int}{l:List Qae}{x:Qae}(h:x∈flt k l):x∈l/\keyP x=k:=by
 unfold flt at h
 simpa using h
theorem Zh0 {l:List Qae}{x:Qae}(h:x∈l):x∈flt (keyP x) l:=by
 unfold flt
 simp[h]
structure Stb (xs ys:List Qae):Prop where
 srt:Srt ys
 eqf:∀k,flt k ys=flt k xs
theorem Stb.mem {xs ys:List Qae}(h:∀k,flt k ys=flt k xs) {x:Qae}:x∈ys↔x∈xs:=
 ⟨fun hx=>(Q3b (h (keyP x)▸Zh0 hx)).1,fun hx=>(Q3b ((h (keyP x)).symm▸Zh0 hx)).1⟩
theorem Zio:∀(l:List Qae) (x:Qae),l.count x=(flt (keyP x) l).count x:=fun l x=>by
 unfold flt
 rw[List.count_filter]
 simp
theorem Stb.perm {xs ys:List Qae}(h:∀k,flt k ys=flt k xs):ys.Perm xs:=by
 rw[List.perm_iff_count]
 intro x
 rw[Zio ys,Zio xs,h]
theorem Stb.len {xs ys:List Qae}(h:∀k,flt k ys=flt k xs):ys.length=xs.length:=(Stb.perm h).length_eq
theorem Stb.small {xs ys:List Qae}(h:∀k,flt k ys=flt k xs) (hs:Qln xs):Qln ys:=fun x hx=>hs x ((Stb.mem h).1 hx)
theorem Q2m {L1 L2 R1 R2 Z1 Z2:List Qae}(hL:Srt (L1++L2)) (hR:Srt (R1++R2)) (h1:∀x∈L1,∀y∈R2,keyP x<=keyP y) (h2:∀x∈R1,∀y∈L2,keyP x<keyP y) (z1:Stb (L1++R1) Z1) (z2:Stb (L2++R2) Z2) :
  Stb ((L1++L2)++(R1++R2)) (Z1++Z2):=by
 unfold Srt at hL hR
 rw[Xco] at hL hR
 refine⟨?_,fun k=>?_⟩
 ·unfold Srt
  rw[Xco]
  refine⟨z1.srt,z2.srt,fun x hx y hy=>?_⟩
  have hx':=(Stb.mem z1.eqf).1 hx
  have hy':=(Stb.mem z2.eqf).1 hy
  rcases Xby.1 hx' with a |a<;>rcases Xby.1 hy' with b |b
  ·exact hL.2.2 x a y b
  ·exact h1 x a y b
  ·exact Int.le_of_lt (h2 x a y b)
  exact hR.2.2 x a y b
 rw[Qkh,z1.eqf,z2.eqf,Qkh,Qkh,Qkh,Qkh,Qkh]
 have key:flt k R1++flt k L2=flt k L2++flt k R1:=by
  cases h:flt k R1 with
  |nil=>simp
  |cons x l=>
   have hx:x∈flt k R1:=by rw[h];exact Xb9 ..
   have hn:flt k L2=[]:=Q3a fun y hy e=>by
    have:=h2 x (Q3b hx).1 y hy
    rw[(Q3b hx).2,e] at this
    exact absurd this (Int.lt_irrefl _)
   rw[hn]
   simp
 rw[Xan,Xan,<-Xan (flt k R1),key]
 simp
theorem Qm7 {l:List Qae}(h:Srt l):Stb l l:=⟨h,fun _=>rfl⟩
theorem Zgx:Srt []:=List.Pairwise.nil
theorem at0 {α:Type}(L:List α) (x:α) (M:List α):(L++x::M)[L.length]? = some x:=by
 rw[Xam (Xay _),Xd3]
 rfl
theorem at1 {α:Type}(L:List α) (x y:α) (M:List α):(L++x::y::M)[L.length+1]? = some y:=by
 rw[Xam (by omega),Xdm]
 rfl
theorem set0 {α:Type}(L:List α) (x y:α) (M:List α):(L++x::M).set L.length y=L++y::M:=by
 rw[Xdg _ _ (Xay _),Xd3]
 rfl
theorem set1 {α:Type}(L:List α) (x y z:α) (M:List α):(L++x::y::M).set (L.length+1) z=L++x::z::M:=by
 rw[Xdg _ _ (by omega),Xdm]
 rfl
theorem at_i {α:Type}{D L M:List α}{x:α}{i:Nat}(h:D=L++x::M) (hi:L.length=i):D[i]? = some x:=by subst h hi;exact at0 ..
theorem Qxf {N:Nat}{a b:Qae}(ha:-1000000<=a.Stair.Price/\a.Stair.Price<=1000000) (hb:-1000000<=b.Stair.Price/\b.Stair.Price<=1000000):Qcu N a b=some (keyP a-keyP b):=by
 unfold Qcu Qk5 keyP
 simp only[Xaa]
 rw[Qa1]
theorem half (x y:Nat) (h:x+y<=1000000):w64 ((IntKind.wrap .u64 (w64 ((x:Int)+(y:Int))))/2)=(((x+y)/2:Nat):Int):=by
 have e1:w64 ((x:Int)+(y:Int))=((x+y:Nat):Int):=by rw[Qa1];omega
 have e2:IntKind.wrap .u64 ((x+y:Nat):Int)=((x+y:Nat):Int):=by
  rw[IntKind.wrap_u64]
  omega
 rw[e1,e2,Qa1]
 omega
section
variable {N len : Nat}
theorem Zii (a:Nat) (K:List Qae->Option (List Qae)) (x:Qae) (A R:List Qae) (hA:A.length=a) (hlen:len<=1000) (hx:-1000000<=x.Stair.Price/\x.Stair.Price<=1000000):∀(n:Nat) (P Q:List Qae),P.length<n->Qln P->(∀q∈Q,keyP x<keyP q)->A.length+P.length+1+Q.length+R.length=len ->
  ∃P1 P2,P=P1++P2/\(∀y,P1.getLast? = some y->keyP y<=keyP x)/\(∀q∈P2++Q,keyP x<keyP q) /\
  Qbe N len a K n ((A.length+P.length:Nat):Int) (A++P++x::(Q++R))=K (A++P1++x::(P2++Q++R)):=by
 intro n
 induction n with
 |zero=>intro P _ h;cases h
 |succ n ih=>
  intro P Q hn hP hQ hl
  rw[Qbe]
  simp only[Qb0]
  rcases Xfi P with rfl |⟨P',y,rfl⟩
  ·refine⟨[],[],rfl,fun y h=>by simp at h,by simpa using hQ,?_⟩
   rw[show decide (((A.length+[].length:Nat):Int)>(a:Int))=false from Xah (by simp;omega)]
   simp
  rw[Xfj] at *
  have hl':(P'++[y]).length=P'.length+1:=by simp
  rw[hl'] at hn hl
  have e0:((A.length+(P'++[y]).length:Nat):Int)=(((A++P').length+1:Nat):Int):=by simp;omega
  have e1:w64 ((((A++P').length+1:Nat):Int)-1)=(((A++P').length:Nat):Int):=by
   rw[Qa1 (by simp;omega) (by simp;omega)];omega
  have eD:A++(P'++[y])++x::(Q++R)=(A++P')++y::x::(Q++R):=by simp
  have hAP:(A++P').length=A.length+P'.length:=by simp
  rw[e0,eD,show decide ((((A++P').length+1:Nat):Int)>(a:Int))=true from Xae (by omega),e1]
  have d1:decide (0<=(((A++P').length+1:Nat):Int))=true:=Xae (by omega)
  have d2:decide ((A++P').length+1<len)=true:=Xae (by omega)
  have d3:decide (0<=(((A++P').length:Nat):Int))=true:=Xae (by omega)
  have d4:decide ((A++P').length<len)=true:=Xae (by omega)
  have hy:=hP y (by simp)
  simp only[Xak,chk,Xbf,d1,d2,d3,d4,Xew,at0,at1,Xaa,Q8p,Qxf hx hy,set0,set1]
  by_cases hxy:keyP x<keyP y
  ·rw[show decide (keyP x-keyP y<0)=true from Xae (by omega),Xak]
   obtain⟨P1,P2,h1,h2,h3,h4⟩:=ih P' (y::Q) (by omega) (fun z hz=>hP z (by simp[hz])) (fun q hq=>by
    rcases Xa7.1 hq with rfl |hq
    ·exact hxy
    exact hQ q hq) (by simp;omega)
   refine⟨P1,P2++[y],by rw[h1];simp,h2,by simpa using h3,?_⟩
   have:=h4
   rw[<-hAP] at this
   simp only[Xan,Xda,Xa9] at this ⊢
   exact this
  rw[show decide (keyP x-keyP y<0)=false from Xah (by omega),Xai]
  refine⟨P'++[y],[],by simp,fun z hz=>?_,by simpa using hQ,by simp⟩
  rw[List.getLast?_concat] at hz
  cases hz
  omega
theorem Zrd {P1 P2:List Qae}{x:Qae}(h:Srt (P1++P2)) (h1:∀y,P1.getLast? = some y->keyP y<=keyP x) (h2:∀q∈P2,keyP x<keyP q):Stb (P1++P2++[x]) (P1++x::P2):=by
 have hp:=h
 unfold Srt at hp
 rw[Xco] at hp
 have hall:∀y∈P1,keyP y<=keyP x:=by
  rcases Xfi P1 with rfl |⟨Q,z,rfl⟩
  ·intro y hy;cases hy
  rw[Xfj] at *
  have hz:=h1 z (by simp)
  intro y hy
  rcases Xby.1 hy with a |a
  ·have:=hp.1
   rw[Xco] at this
   exact Xgz (this.2.2 y a z (by simp)) hz
  rw[Xbq] at a
  subst a
  exact hz
 refine⟨?_,fun k=>?_⟩
 ·unfold Srt
  rw[Xco,Xc2]
  refine⟨hp.1,⟨fun q hq=>Int.le_of_lt (h2 q hq),hp.2.1⟩,fun y hy q hq=>?_⟩
  rcases Xa7.1 hq with rfl |hq
  ·exact hall y hy
  exact hp.2.2 y hy q hq
 rw[show P1++x::P2=P1++([x]++P2) from rfl,Qkh,Qkh,Qkh,Qkh,Xan]
 congr 1
 by_cases e:keyP x=k
 ·have:flt k P2=[]:=Q3a fun q hq he=>by have:=h2 q hq;omega
  rw[this]
  simp
 have:flt k [x]=[]:=Q3a fun q hq he=>by rw[Xbq] at hq;subst hq;exact e he
 rw[this]
 simp
theorem Zih (a b:Nat) (A B:List Qae) (hA:A.length=a) (hlen:len<=1000) (hN:len<N):∀(n:Nat) (P S:List Qae),S.length<n->Srt P->Qln P->Qln S->1<=P.length->A.length+P.length+S.length=b->b+B.length=len ->
  ∃Z,Stb (P++S) Z/\Qa0 N len a b n ((A.length+P.length:Nat):Int) (A++P++(S++B))=some (A++Z++B):=by
 intro n
 induction n with
 |zero=>intro P S h;cases h
 |succ n ih=>
  intro P S hn hP sP sS h1 hb hl
  rw[Qa0]
  cases S with
  |nil=>
   refine⟨P,by simpa using Qm7 hP,?_⟩
   rw[show decide (((A.length+P.length:Nat):Int)<(b:Int))=false from Xah (by simp at hb;omega)]
   simp
  |cons x S=>
   simp only[Xa5] at hn hb
   rw[show decide (((A.length+P.length:Nat):Int)<(b:Int))=true from Xae (by omega),Xak]
   simp only[Qb0]
   obtain⟨P1,P2,e1,e2,e3,e4⟩:=Zii (N:=N) (len:=len) a (fun y8=>Qa0 N len a b n (w64 (((A.length+P.length:Nat):Int)+1)) y8) x A (S++B) hA hlen (sS x (by simp)) N P [] (by omega) sP (by simp) (by simp;omega)
   simp only[Xbn,Xa9] at e3 e4
   have hst:=Zrd (x:=x) (e1▸hP) e2 e3
   obtain⟨Z,z1,z2⟩:=ih (P1++x::P2) S (by omega) hst.srt (Stb.small hst.eqf (fun z hz=>by
    rcases Xby.1 hz with h |h
    ·exact sP z (e1▸h)
    rw[Xbq] at h;subst h;exact sS z (by simp))) (fun z hz=>sS z (by simp[hz])) (by simp;omega) (by rw[e1] at hb;simp at hb ⊢;omega) hl
   refine⟨Z,⟨z1.srt,fun k=>?_⟩,?_⟩
   ·rw[z1.eqf,Qkh,hst.eqf,<-Qkh,e1]
    simp
   have e5:w64 (((A.length+P.length:Nat):Int)+1)=((A.length+(P1++x::P2).length:Nat):Int):=by
    rw[Qa1,e1]
    simp
    omega
   rw[e5] at e4
   have:=z2
   simp only[Xan,Xda] at this e4 ⊢
   rw[e5,e4,this]
theorem Zpy (a b:Nat) (A S B:List Qae) (hA:A.length=a) (hlen:len<=1000) (hN:len<N) (hS:Qln S) (hb:a+S.length=b) (hl:b+B.length=len):∃Z,Stb S Z/\Qb2 N len a b (A++S++B)=some (A++Z++B):=by
 unfold Qb2
 have e1:w64 ((a:Int)+1)=((a+1:Nat):Int):=Qa1
 rw[e1]
 cases S with
 |nil=>
  refine⟨[],Qm7 Zgx,?_⟩
  cases N with
  |zero=>omega
  |succ n=>
   rw[Qa0,show decide (((a+1:Nat):Int)<(b:Int))=false from Xah (by simp at hb;omega)]
   rfl
 |cons x S=>
  obtain⟨Z,h1,h2⟩:=Zih (N:=N) (len:=len) a b A B hA hlen hN N [x] S (by simp at hb;omega) (Xe8 ..) (fun z hz=>hS z (by rw[Xbq] at hz;subst hz;simp)) (fun z hz=>hS z (by simp[hz])) (by simp) (by simp at hb ⊢;omega) hl
  refine⟨Z,h1,?_⟩
  rw[hA] at h2
  simpa using h2
theorem Zlr (a b c:Nat) (hlen:len<=1000) (B:List Qae):∀(n i:Nat) (X Y A M:List Qae),X.length<n->X.length=Y.length->A.length=a+i->A.length+X.length+M.length=b+i->i+X.length=c->A.length+X.length+M.length+Y.length+B.length=len ->
  Qbq N len a b c n i (A++X++M++Y++B)=some (A++Y++M++X++B):=by
 intro n
 induction n with
 |zero=>intro i X Y A M h;cases h
 |succ n ih=>
  intro i X Y A M hn hxy ha hb hc hl
  rw[Qbq]
  cases X with
  |nil=>
   cases Y with
   |cons _ _=>simp at hxy
   |nil=>
    rw[show decide ((i:Int)<(c:Int))=false from Xah (by simp at hc;omega)]
    rfl
  |cons x X=>
   cases Y with
   |nil=>simp at hxy
   |cons y Y=>
    simp only[Xa5] at hn hxy hb hc hl
    have e1:w64 ((b:Int)+(i:Int))=((b+i:Nat):Int):=Qa1
    have e2:w64 ((a:Int)+(i:Int))=((a+i:Nat):Int):=Qa1
    have e3:w64 ((i:Int)+1)=((i+1:Nat):Int):=Qa1
    have d1:decide (0<=((b+i:Nat):Int))=true:=Xae (by omega)
    have d2:decide (b+i<len)=true:=Xae (by omega)
    have d3:decide (0<=((a+i:Nat):Int))=true:=Xae (by omega)
    have d4:decide (a+i<len)=true:=Xae (by omega)
    have g1:(A++x::X++M++y::Y++B)[b+i]? = some y:=at_i (L:=A++x::X++M) (M:=Y++B) (by simp) (by simp;omega)
    have g2:(A++x::X++M++y::Y++B)[a+i]? = some x:=at_i (L:=A) (M:=X++M++y::Y++B) (by simp) ha
    have g3:(A++x::X++M++y::Y++B).set (a+i) y=A++y::X++M++y::Y++B:=by
     rw[<-ha]
     simp[set0]
    have g4:(A++y::X++M++y::Y++B)[b+i]? = some y:=at_i (L:=A++y::X++M) (M:=Y++B) (by simp) (by simp;omega)
    have g5:(A++y::X++M++y::Y++B).set (b+i) x=(A++[y])++X++(M++[x])++Y++B:=by
     have hh:b+i=(A++y::X++M).length:=by simp;omega
     rw[hh]
     have:=set0 (A++y::X++M) y x (Y++B)
     simp only[Xan,Xda,Xa9] at this ⊢
     exact this
    rw[show decide ((i:Int)<(c:Int))=true from Xae (by omega)]
    simp only[Xak,e1,e2,e3,chk,d1,d2,d3,d4,Xew,Xbf,g1,g2,Xaa,Q8p,g3,g4,g5]
    rw[ih (i+1) X Y (A++[y]) (M++[x]) (by omega) (by omega) (by simp;omega) (by simp;omega) (by omega) (by simp;omega)]
    simp
theorem Zgt (a b c:Nat) (hlen:len<=1000) (hN:len<N) (A X M Y B:List Qae) (hxy:X.length=Y.length) (ha:A.length=a) (hb:a+X.length+M.length=b) (hc:X.length=c) (hl:A.length+X.length+M.length+Y.length+B.length=len) :
  Qcb N len a b c (A++X++M++Y++B)=some (A++Y++M++X++B):=
 Zlr a b c hlen B N 0 X Y A M (by omega) hxy (by omega) (by omega) (by omega) hl
theorem Zl3 (m:Nat) (hlen:len<=1000) (hN:len<N):∀(n:Nat) (A X Y B:List Qae),X.length+Y.length<n->0<X.length->0<Y.length->A.length+X.length=m->A.length+X.length+Y.length+B.length=len ->
  Qbl N len m (fun ⟨y2,y3⟩=>(Qcb N len (w64 ((m:Int)-y2)) m y2 y3).bind fun x6=>some x6) n (X.length:Int) (Y.length:Int) (A++X++Y++B)=some (A++Y++X++B):=by
 intro n
 induction n with
 |zero=>intro A X Y B h;cases h
 |succ n ih=>
  intro A X Y B hn hx hy hm hl
  rw[Qbl]
  have e1:w64 ((m:Int)-(X.length:Int))=(A.length:Int):=by rw[Qa1];omega
  by_cases he:X.length=Y.length
  ·rw[show((X.length:Int) != (Y.length:Int))=false from by simp[he]]
   simp only[Xai,e1]
   have:=Zgt (N:=N) (len:=len) A.length m X.length hlen hN A X [] Y B he rfl (by simp;omega) rfl (by simp;omega)
   simp only[Xbn] at this
   rw[this]
   rfl
  rw[show((X.length:Int) != (Y.length:Int))=true from by simp;omega]
  simp only[Xak]
  by_cases hgt:Y.length<X.length
  ·rw[show decide ((X.length:Int)>(Y.length:Int))=true from Xae (by omega),Xak,e1]
   obtain⟨X1,X2,hX,hX1⟩:∃X1 X2,X=X1++X2/\X1.length=Y.length:=⟨X.take Y.length,X.drop Y.length,(Xcf ..).symm,by simp;omega⟩
   subst hX
   simp only[Xb1] at hn hx hm hl hgt he e1 ⊢
   have:=Zgt (N:=N) (len:=len) A.length m Y.length hlen hN A X1 X2 Y B hX1 rfl (by omega) hX1 (by omega)
   rw[<-Xan A X1 X2,this]
   simp only[Xaa]
   have e2:w64 (((X1.length+X2.length:Nat):Int)-(Y.length:Int))=(X2.length:Int):=by rw[Qa1];omega
   have ih':=ih (A++Y) X2 X1 B (by omega) (by omega) (by omega) (by simp;omega) (by simp;omega)
   rw[e2]
   rw[hX1] at ih'
   rw[ih']
   simp
  rw[show decide ((X.length:Int)>(Y.length:Int))=false from Xah (by omega),Xai,e1]
  obtain⟨Y1,Y2,hY,hY2⟩:∃Y1 Y2,Y=Y1++Y2/\Y2.length=X.length:=⟨Y.take (Y.length-X.length),Y.drop (Y.length-X.length),(Xcf ..).symm,by simp;omega⟩
  subst hY
  simp only[Xb1] at hn hy hl hgt he ⊢
  have e2:w64 (w64 ((m:Int)+((Y1.length+Y2.length:Nat):Int))-(X.length:Int))=((m+Y1.length:Nat):Int):=by
   rw[Qa1 (x:=(m:Int)+((Y1.length+Y2.length:Nat):Int)),Qa1];omega
  have:=Zgt (N:=N) (len:=len) A.length (m+Y1.length) X.length hlen hN A X Y1 Y2 B hY2.symm rfl (by omega) rfl (by omega)
  rw[e2,<-Xan (A++X) Y1 Y2,this]
  simp only[Xaa]
  have e3:w64 (((Y1.length+Y2.length:Nat):Int)-(X.length:Int))=(Y1.length:Int):=by rw[Qa1];omega
  have ih':=ih A Y2 Y1 (X++B) (by omega) (by omega) (by omega) (by omega) (by simp;omega)
  rw[e3]
  rw[hY2] at ih'
  rw[show A++Y2++Y1++X++B=A++Y2++Y1++(X++B) from by simp,ih']
  simp
theorem Zv0 (a m b:Nat) (hlen:len<=1000) (hN:len<N) (A X Y B:List Qae) (hx:0<X.length) (hy:0<Y.length) (ha:A.length=a) (hm:a+X.length=m) (hb:m+Y.length=b) (hl:b+B.length=len) :
  Qc3 N len a m b (A++X++Y++B)=some (A++Y++X++B):=by
 unfold Qc3
 have e1:w64 ((m:Int)-(a:Int))=(X.length:Int):=by rw[Qa1];omega
 have e2:w64 ((b:Int)-(m:Int))=(Y.length:Int):=by rw[Qa1];omega
 simp only[Qb0,e1,e2]
 exact Zl3 m hlen hN N A X Y B (by omega) hx hy (by omega) (by omega)
end
end
section
section
variable {N len : Nat}
def Anti (p:Nat->Bool) (lo hi:Nat):Prop:=∀i j,lo<=i->i<j->j<hi->p j=true->p i=true
theorem Q8m {x y:Nat}(h:x<y):x<=(x+y)/2/\(x+y)/2<y:=by omega
theorem Zy1 (a:Nat) (D:List Qae) (p:Nat->Bool) (lo hi:Nat) (hp:Anti p lo hi) (hhi:hi<=len) (hlen:len<=1000) (hal:a<len) (hev:∀c,lo<=c->c<hi->∃u v,D[c]? = some u/\D[a]? = some v/\(-1000000<=u.Stair.Price/\u.Stair.Price<=1000000)/\(-1000000<=v.Stair.Price/\v.Stair.Price<=1000000)/\decide (keyP u<keyP v)=p c) :
    ∀(n x y:Nat),y-x<n->x<=y->lo<=x->y<=hi->(∀i,lo<=i->i<x->p i=true)->(∀i,y<=i->i<hi->p i=false) ->
    ∃r,x<=r/\r<=y/\(∀i,lo<=i->i<r->p i=true)/\(∀i,r<=i->i<hi->p i=false)/\∀K:Int->Option (List Qae),slices_symMergeCmpFunc_inject_offerX_1_loop5 N len a D K n x y=K r:=by
  intro n
  induction n with
  |zero=>intro x y h;cases h
  |succ n ih=>
    intro x y hn hxy h1 h2 h3 h4
    have ex:=fun K:Int->Option (List Qae)=>slices_symMergeCmpFunc_inject_offerX_1_loop5.eq_2 N len a D K x y n
    rcases Xbj hxy with rfl |hlt
    · refine⟨x,Xay _,Xay _,h3,h4,fun K=>?_⟩
      rw[ex,show decide ((x:Int)<(x:Int))=false from Xah (by omega)]
      rfl
    have hb:=Q8m hlt
    obtain⟨u,v,g1,g2,g3,g4,g5⟩:=hev ((x+y)/2) (by omega) (by omega)
    have e1:w64 ((((x+y)/2:Nat):Int)+1)=(((x+y)/2+1:Nat):Int):=Qa1
    have d1:decide (0<=(((x+y)/2:Nat):Int))=true:=Xae (by omega)
    have d2:decide ((x+y)/2<len)=true:=Xae (by omega)
    have d3:decide (0<=(a:Int))=true:=Xae (by omega)
    have d4:decide (a<len)=true:=Xae hal
    rw[show decide ((x:Int)<(y:Int))=true from Xae (by omega)] at ex
    simp only[Xak,half x y (by omega),Xaa,chk,Xbf,d1,d2,d3,d4,Xew,g1,g2,Q8p,Qxf g3 g4,e1] at ex
    cases hpc:p ((x+y)/2) with
    |true=>
      rw[hpc] at g5
      rw[show decide (keyP u-keyP v<0)=true from Xae (by have:=Xdr g5;omega)] at ex
      obtain⟨r,r1,r2,r3,r4,r5⟩:=ih ((x+y)/2+1) y (by omega) (by omega) (by omega) h2 (fun i i1 i2=>by
        rcases Xbj (Xhq i2) with rfl |hlt'
        · exact hpc
        exact hp i _ i1 hlt' (by omega) hpc) h4
      exact⟨r,by omega,r2,r3,r4,fun K=>(ex K).trans (r5 K)⟩
    |false=>
      rw[hpc] at g5
      rw[show decide (keyP u-keyP v<0)=false from Xah (by have:=Xg8 g5;omega)] at ex
      obtain⟨r,r1,r2,r3,r4,r5⟩:=ih x ((x+y)/2) (by omega) (by omega) h1 (by omega) h3 (fun i i1 i2=>by
        rcases Xbj i1 with rfl |hlt'
        · exact hpc
        cases hpi:p i with
        |false=>rfl
        |true=>rw[hp _ i (by omega) hlt' i2 hpi] at hpc;cases hpc)
      exact⟨r,r1,by omega,r3,r4,fun K=>(ex K).trans (r5 K)⟩
theorem Zy2 (m:Nat) (D:List Qae) (p:Nat->Bool) (lo hi:Nat) (hp:Anti p lo hi) (hhi:hi<=len) (hlen:len<=1000) (hal:m<len) (hev:∀c,lo<=c->c<hi->∃u v,D[m]? = some u/\D[c]? = some v/\(-1000000<=u.Stair.Price/\u.Stair.Price<=1000000)/\(-1000000<=v.Stair.Price/\v.Stair.Price<=1000000)/\(!decide (keyP u<keyP v))=p c) :
    ∀(n x y:Nat),y-x<n->x<=y->lo<=x->y<=hi->(∀i,lo<=i->i<x->p i=true)->(∀i,y<=i->i<hi->p i=false) ->
    ∃r,x<=r/\r<=y/\(∀i,lo<=i->i<r->p i=true)/\(∀i,r<=i->i<hi->p i=false)/\∀K:Int->Option (List Qae),slices_symMergeCmpFunc_inject_offerX_1_loop3 N len m D K n x y=K r:=by
  intro n
  induction n with
  |zero=>intro x y h;cases h
  |succ n ih=>
    intro x y hn hxy h1 h2 h3 h4
    have ex:=fun K:Int->Option (List Qae)=>slices_symMergeCmpFunc_inject_offerX_1_loop3.eq_2 N len m D K x y n
    rcases Xbj hxy with rfl |hlt
    · refine⟨x,Xay _,Xay _,h3,h4,fun K=>?_⟩
      rw[ex,show decide ((x:Int)<(x:Int))=false from Xah (by omega)]
      rfl
    have hb:=Q8m hlt
    obtain⟨u,v,g1,g2,g3,g4,g5⟩:=hev ((x+y)/2) (by omega) (by omega)
    have e1:w64 ((((x+y)/2:Nat):Int)+1)=(((x+y)/2+1:Nat):Int):=Qa1
    have d1:decide (0<=(((x+y)/2:Nat):Int))=true:=Xae (by omega)
    have d2:decide ((x+y)/2<len)=true:=Xae (by omega)
    have d3:decide (0<=(m:Int))=true:=Xae (by omega)
    have d4:decide (m<len)=true:=Xae hal
    rw[show decide ((x:Int)<(y:Int))=true from Xae (by omega)] at ex
    simp only[Xak,half x y (by omega),Xaa,chk,Xbf,d1,d2,d3,d4,Xew,g1,g2,Q8p,Qxf g3 g4,e1] at ex
    cases hpc:p ((x+y)/2) with
    |true=>
      rw[hpc,Xdw] at g5
      rw[show decide (keyP u-keyP v<0)=false from Xah (by have:=Xg8 g5;omega)] at ex
      obtain⟨r,r1,r2,r3,r4,r5⟩:=ih ((x+y)/2+1) y (by omega) (by omega) (by omega) h2 (fun i i1 i2=>by
        rcases Xbj (Xhq i2) with rfl |hlt'
        · exact hpc
        exact hp i _ i1 hlt' (by omega) hpc) h4
      exact⟨r,by omega,r2,r3,r4,fun K=>(ex K).trans (r5 K)⟩
    |false=>
      rw[hpc,Bool.not_eq_false'] at g5
      rw[show decide (keyP u-keyP v<0)=true from Xae (by have:=Xdr g5;omega)] at ex
      obtain⟨r,r1,r2,r3,r4,r5⟩:=ih x ((x+y)/2) (by omega) (by omega) h1 (by omega) h3 (fun i i1 i2=>by
        rcases Xbj i1 with rfl |hlt'
        · exact hpc
        cases hpi:p i with
        |false=>rfl
        |true=>rw[hp _ i (by omega) hlt' i2 hpi] at hpc;cases hpc)
      exact⟨r,r1,by omega,r3,r4,fun K=>(ex K).trans (r5 K)⟩
theorem Zy3 (q:Nat) (D:List Qae) (p:Nat->Bool) (lo hi:Nat) (hp:Anti p lo hi) (hhi:hi<=len) (hlen:len<=1000) (hq:∀c,lo<=c->c<hi->c<=q/\q-c<len) (hev:∀c,lo<=c->c<hi->∃u v,D[q-c]? = some u/\D[c]? = some v/\(-1000000<=u.Stair.Price/\u.Stair.Price<=1000000)/\(-1000000<=v.Stair.Price/\v.Stair.Price<=1000000)/\(!decide (keyP u<keyP v))=p c) :
    ∀(n x y:Nat),y-x<n->x<=y->lo<=x->y<=hi->(∀i,lo<=i->i<x->p i=true)->(∀i,y<=i->i<hi->p i=false) ->
    ∃r,x<=r/\r<=y/\(∀i,lo<=i->i<r->p i=true)/\(∀i,r<=i->i<hi->p i=false)/\∀K:Int->Option (List Qae),slices_symMergeCmpFunc_inject_offerX_1_loop1 N len D q K n x y=K r:=by
  intro n
  induction n with
  |zero=>intro x y h;cases h
  |succ n ih=>
    intro x y hn hxy h1 h2 h3 h4
    have ex:=fun K:Int->Option (List Qae)=>slices_symMergeCmpFunc_inject_offerX_1_loop1.eq_2 N len D q K x y n
    rcases Xbj hxy with rfl |hlt
    · refine⟨x,Xay _,Xay _,h3,h4,fun K=>?_⟩
      rw[ex,show decide ((x:Int)<(x:Int))=false from Xah (by omega)]
      rfl
    have hb:=Q8m hlt
    obtain⟨u,v,g1,g2,g3,g4,g5⟩:=hev ((x+y)/2) (by omega) (by omega)
    obtain⟨q1,q2⟩:=hq ((x+y)/2) (by omega) (by omega)
    have e1:w64 ((((x+y)/2:Nat):Int)+1)=(((x+y)/2+1:Nat):Int):=Qa1
    have e2:w64 ((q:Int)-(((x+y)/2:Nat):Int))=((q-(x+y)/2:Nat):Int):=by rw[Qa1];omega
    have d1:decide (0<=(((x+y)/2:Nat):Int))=true:=Xae (by omega)
    have d2:decide ((x+y)/2<len)=true:=Xae (by omega)
    have d3:decide (0<=((q-(x+y)/2:Nat):Int))=true:=Xae (by omega)
    have d4:decide (q-(x+y)/2<len)=true:=Xae q2
    rw[show decide ((x:Int)<(y:Int))=true from Xae (by omega)] at ex
    simp only[Xak,half x y (by omega),Xaa,e2,chk,Xbf,d1,d2,d3,d4,Xew,g1,g2,Q8p,Qxf g3 g4,e1] at ex
    cases hpc:p ((x+y)/2) with
    |true=>
      rw[hpc,Xdw] at g5
      rw[show decide (keyP u-keyP v<0)=false from Xah (by have:=Xg8 g5;omega)] at ex
      obtain⟨r,r1,r2,r3,r4,r5⟩:=ih ((x+y)/2+1) y (by omega) (by omega) (by omega) h2 (fun i i1 i2=>by
        rcases Xbj (Xhq i2) with rfl |hlt'
        · exact hpc
        exact hp i _ i1 hlt' (by omega) hpc) h4
      exact⟨r,by omega,r2,r3,r4,fun K=>(ex K).trans (r5 K)⟩
    |false=>
      rw[hpc,Bool.not_eq_false'] at g5
      rw[show decide (keyP u-keyP v<0)=true from Xae (by have:=Xdr g5;omega)] at ex
      obtain⟨r,r1,r2,r3,r4,r5⟩:=ih x ((x+y)/2) (by omega) (by omega) h1 (by omega) h3 (fun i i1 i2=>by
        rcases Xbj i1 with rfl |hlt'
        · exact hpc
        cases hpi:p i with
        |false=>rfl
        |true=>rw[hp _ i (by omega) hlt' i2 hpi] at hpc;cases hpc)
      exact⟨r,r1,by omega,r3,r4,fun K=>(ex K).trans (r5 K)⟩
theorem Zwd (hlen:len<=1000) (K:List Qae->Option (List Qae)) (x:Qae) (i:Nat):∀(n:Nat) (A R B:List Qae),R.length<n->A.length+R.length+1=i->A.length+1+R.length+B.length=len ->
    Qbw N len i K n (A.length:Int) (A++x::(R++B))=K (A++R++x::B):=by
  intro n
  induction n with
  |zero=>intro A R B h;cases h
  |succ n ih=>
    intro A R B hn hi hl
    rw[Qbw]
    have e0:w64 ((i:Int)-1)=((i-1:Nat):Int):=by rw[Qa1];omega
    rw[e0]
    cases R with
    |nil=>
      rw[show decide ((A.length:Int)<((i-1:Nat):Int))=false from Xah (by simp at hi;omega)]
      simp
    |cons y R=>
      simp only[Xa5] at hn hi hl
      have e1:w64 ((A.length:Int)+1)=((A.length+1:Nat):Int):=Qa1
      have d1:decide (0<=((A.length+1:Nat):Int))=true:=Xae (by omega)
      have d2:decide (A.length+1<len)=true:=Xae (by omega)
      have d3:decide (0<=(A.length:Int))=true:=Xae (by omega)
      have d4:decide (A.length<len)=true:=Xae (by omega)
      rw[show decide ((A.length:Int)<((i-1:Nat):Int))=true from Xae (by omega)]
      simp only[Xak,e1,chk,Xbf,d1,d2,d3,d4,Xew,Xda,at0,at1,Xaa,Q8p,set0,set1]
      have ih':=ih (A++[y]) R B (by omega) (by simp;omega) (by simp;omega)
      have e2:(((A++[y]).length:Nat):Int)=((A.length+1:Nat):Int):=by simp
      rw[e2] at ih'
      simpa using ih'
theorem Zmh (hlen:len<=1000) (K:List Qae->Option (List Qae)) (x:Qae) (i:Nat):∀(n:Nat) (A R B:List Qae),R.length<n->A.length=i->A.length+1+R.length+B.length=len ->
    Qbx N len i K n ((A.length+R.length:Nat):Int) (A++R++x::B)=K (A++x::(R++B)):=by
  intro n
  induction n with
  |zero=>intro A R B h;cases h
  |succ n ih=>
    intro A R B hn hi hl
    rw[Qbx]
    rcases Xfi R with rfl |⟨R',y,rfl⟩
    · rw[show decide (((A.length+[].length:Nat):Int)>(i:Int))=false from Xah (by simp;omega)]
      simp
    rw[Xfj] at *
    have hl':(R'++[y]).length=R'.length+1:=by simp
    rw[hl'] at hn hl
    have e0:((A.length+(R'++[y]).length:Nat):Int)=(((A++R').length+1:Nat):Int):=by simp;omega
    have hAP:(A++R').length=A.length+R'.length:=by simp
    have e1:w64 ((((A++R').length+1:Nat):Int)-1)=(((A++R').length:Nat):Int):=by
      rw[Qa1];omega
    have eD:A++(R'++[y])++x::B=(A++R')++y::x::B:=by simp
    rw[e0,eD,show decide ((((A++R').length+1:Nat):Int)>(i:Int))=true from Xae (by omega),e1]
    have d1:decide (0<=(((A++R').length+1:Nat):Int))=true:=Xae (by omega)
    have d2:decide ((A++R').length+1<len)=true:=Xae (by omega)
    have d3:decide (0<=(((A++R').length:Nat):Int))=true:=Xae (by omega)
    have d4:decide ((A++R').length<len)=true:=Xae (by omega)
    simp only[Xak,chk,Xbf,d1,d2,d3,d4,Xew,at0,at1,Xaa,Q8p,set0,set1]
    have ih':=ih A R' (y::B) (by omega) hi (by simp;omega)
    rw[<-hAP] at ih'
    simpa using ih'
theorem idx {D A S B:List Qae}{a:Nat}(h:D=A++S++B) (ha:A.length=a) {c:Nat}(h1:a<=c) (h2:c<a+S.length):∃u,D[c]? = some u/\u∈S/\S[c-a]? = some u:=by
  have hlt:c-a<S.length:=by omega
  refine⟨S[c-a],?_,Xb2 hlt,Xab hlt⟩
  subst h
  rw[Xan,Xam (by omega),Xas (by omega),ha,Xab hlt]
theorem Qwc {S:List Qae}(h:Srt S) {i j:Nat}{u v:Qae}(hij:i<=j) (hi:S[i]? = some u) (hj:S[j]? = some v):keyP u<=keyP v:=by
  rcases Xbj hij with rfl |hlt
  · rw[hi] at hj;cases hj;exact Xbp _
  obtain⟨hi1,hi2⟩:=Xad.1 hi
  obtain⟨hj1,hj2⟩:=Xad.1 hj
  have:=Xgd.1 h i j hi1 hj1 hlt
  rw[hi2,hj2] at this
  exact this
theorem cut {α:Type}(S:List α) (k:Nat) (h:k<=S.length):∃S1 S2,S=S1++S2/\S1.length=k:=⟨S.take k,S.drop k,(Xcf ..).symm,by simp;omega⟩
theorem Qwg {S:List Qae}{x:Qae}(h:x∈S):∃i,i<S.length/\S[i]? = some x:=by
  obtain⟨i,hi⟩:=Xcj h
  exact⟨i,(Xad.1 hi).1,hi⟩
theorem Qnk {A B:List Qae}(h:Srt (A++B)):Srt A:=(Xco.1 h).1
theorem Qnj {A B:List Qae}(h:Srt (A++B)):Srt B:=(Xco.1 h).2.1
theorem Quj {u v:Qae}(h:(!decide (keyP u<keyP v))=true):keyP v<=keyP u:=by
  simp only[Xdw,Xbx] at h
  omega
theorem Q5u {u v:Qae}(h:(!decide (keyP u<keyP v))=false):keyP u<keyP v:=by
  simpa using h
theorem seek (hlen:len<=1000) (hN:len<N) {A L R B:List Qae}{a m b:Nat}(ha:A.length=a) (hm:a+L.length=m) (hb:m+R.length=b) (hl:b+B.length=len) (hL:Srt L) (hR:Srt R) (sL:Qln L) (sR:Qln R) (hL0:0<L.length) (hR0:0<R.length) :
    ∃s,a<=s/\s<=m/\s<=(a+b)/2/\(a+b)/2+m<=b+s /\
      (∀u v,a<s->s-1<m->(a+b)/2+m-s<b->L[s-1-a]? = some u->R[(a+b)/2-s]? = some v->keyP u<=keyP v) /\
      (∀u v,s<m->s<(a+b)/2->L[s-a]? = some u->R[(a+b)/2-s-1]? = some v->keyP v<keyP u) /\
      ∀K:Int->Option (List Qae),(bif decide ((m:Int)>(((a+b)/2:Nat):Int)) then(some (w64 ((w64 ((((a+b)/2:Nat):Int)+(m:Int)))-(b:Int)))).bind (fun x50=>slices_symMergeCmpFunc_inject_offerX_1_loop1 N len (A++L++R++B) (((a+b)/2+m-1:Nat):Int) K N x50 (((a+b)/2:Nat):Int))
        else slices_symMergeCmpFunc_inject_offerX_1_loop1 N len (A++L++R++B) (((a+b)/2+m-1:Nat):Int) K N (a:Int) (m:Int))=K s:=by
  generalize hmid:(a+b)/2=mid
  have hD1:A++L++R++B=A++L++(R++B):=by simp
  have hD2:A++L++R++B=(A++L)++R++B:=rfl
  have hAL:(A++L).length=m:=by simp;omega
  have gL:=fun c (h1:a<=c) (h2:c<m)=>idx hD1 ha h1 (by omega:c<a+L.length)
  have gR:=fun c (h1:m<=c) (h2:c<b)=>idx hD2 hAL h1 (by omega:c<m+R.length)
  let p:Nat->Bool:=fun c=>match (A++L++R++B)[mid+m-1-c]?,(A++L++R++B)[c]? with |some u,some v=>!decide (keyP u<keyP v) |_,_=>false
  have hpe:∀c u v,(A++L++R++B)[mid+m-1-c]? = some u->(A++L++R++B)[c]? = some v->p c=!decide (keyP u<keyP v):=fun c u v h1 h2=>by
    show(match (A++L++R++B)[mid+m-1-c]?,(A++L++R++B)[c]? with |some u,some v=>!decide (keyP u<keyP v) |_,_=>false)=_
    rw[h1,h2]
  have main:∀s0 r0:Nat,a<=s0->s0<=r0->r0<=m->r0<=mid->(s0=a\/s0+b=mid+m)->(r0=m\/r0=mid)->mid+m<=b+s0 ->
      ∃s,s0<=s/\s<=r0 /\
      (∀u v,a<s->s-1<m->mid+m-s<b->L[s-1-a]? = some u->R[mid-s]? = some v->keyP u<=keyP v) /\
      (∀u v,s<m->s<mid->L[s-a]? = some u->R[mid-s-1]? = some v->keyP v<keyP u) /\
      ∀K:Int->Option (List Qae),slices_symMergeCmpFunc_inject_offerX_1_loop1 N len (A++L++R++B) ((mid+m-1:Nat):Int) K N (s0:Int) (r0:Int)=K s:=by
    intro s0 r0 h1 h2 h3 h4 h5 h6 h7
    have ev:∀c,s0<=c->c<r0->∃u v,(A++L++R++B)[mid+m-1-c]? = some u/\(A++L++R++B)[c]? = some v/\u∈R/\v∈L/\R[mid-1-c]? = some u/\L[c-a]? = some v:=fun c c1 c2=>by
      obtain⟨v,v1,v2,v3⟩:=gL c (by omega) (by omega)
      obtain⟨u,u1,u2,u3⟩:=gR (mid+m-1-c) (by omega) (by omega)
      rw[show mid+m-1-c-m=mid-1-c from by omega] at u3
      exact⟨u,v,u1,v1,u2,v2,u3,v3⟩
    have anti:Anti p s0 r0:=fun i j i1 i2 i3 hj=>by
      obtain⟨u,v,u1,v1,_,_,u3,v3⟩:=ev i i1 (by omega)
      obtain⟨u',v',u1',v1',_,_,u3',v3'⟩:=ev j (by omega) i3
      rw[hpe j u' v' u1' v1'] at hj
      rw[hpe i u v u1 v1]
      have e1:=Quj hj
      have e2:=Qwc hL (by omega:i-a<=j-a) v3 v3'
      have e3:=Qwc hR (by omega:mid-1-j<=mid-1-i) u3' u3
      simp only[Xdw,Xbx]
      omega
    obtain⟨s,s1,s2,s3,s4,s5⟩:=Zy3 (N:=N) (len:=len) (mid+m-1) (A++L++R++B) p s0 r0 anti (by omega) hlen (fun c c1 c2=>by omega) (fun c c1 c2=>by
      obtain⟨u,v,u1,v1,u2,v2,_,_⟩:=ev c c1 c2
      exact⟨u,v,u1,v1,sR u u2,sL v v2,(hpe c u v u1 v1).symm⟩) N s0 r0 (by omega) h2 (Xay _) (Xay _) (fun i i1 i2=>by omega) (fun i i1 i2=>by omega)
    refine⟨s,s1,s2,fun u v q1 q2 q3 hu hv=>?_,fun u v q1 q2 hu hv=>?_,s5⟩
    · rcases Xbj s1 with e |hlt
      · omega
      have hp:=s3 (s-1) (by omega) (by omega)
      obtain⟨u',v',u1,v1,_,_,u3,v3⟩:=ev (s-1) (by omega) (by omega)
      rw[hpe (s-1) u' v' u1 v1] at hp
      rw[show mid-1-(s-1)=mid-s from by omega,hv] at u3
      rw[hu] at v3
      cases u3
      cases v3
      exact Quj hp
    rcases Xbj s2 with e |hlt
    · omega
    have hp:=s4 s (Xay _) hlt
    obtain⟨u',v',u1,v1,_,_,u3,v3⟩:=ev s (by omega) hlt
    rw[hpe s u' v' u1 v1] at hp
    rw[show mid-1-s=mid-s-1 from by omega,hv] at u3
    rw[hu] at v3
    cases u3
    cases v3
    exact Q5u hp
  by_cases hc:m>mid
  · obtain⟨s,q1,q2,q3,q4,q5⟩:=main (mid+m-b) mid (by omega) (by omega) (by omega) (by omega) (Or.inr (by omega)) (Or.inr rfl) (by omega)
    refine⟨s,by omega,by omega,by omega,by omega,q3,q4,fun K=>?_⟩
    have e1:w64 ((w64 ((mid:Int)+(m:Int)))-(b:Int))=((mid+m-b:Nat):Int):=by
      rw[Qa1 (x:=(mid:Int)+(m:Int)),Qa1];omega
    rw[show decide ((m:Int)>(mid:Int))=true from Xae (by omega),Xak,Xaa,e1]
    exact q5 K
  obtain⟨s,q1,q2,q3,q4,q5⟩:=main a m (by omega) (by omega) (by omega) (by omega) (Or.inl rfl) (Or.inl rfl) (by omega)
  refine⟨s,by omega,by omega,by omega,by omega,q3,q4,fun K=>?_⟩
  rw[show decide ((m:Int)>(mid:Int))=false from Xah (by omega),Xai]
  exact q5 K
theorem Zw1 {S T:List Qae}(hS:Srt S) (hT:Srt T) (h:∀u v,S[S.length-1]? = some u->T[0]? = some v->keyP u<=keyP v):∀x∈S,∀y∈T,keyP x<=keyP y:=by
  intro x hx y hy
  obtain⟨i,i1,i2⟩:=Qwg hx
  obtain⟨j,j1,j2⟩:=Qwg hy
  obtain⟨u,hu⟩:∃u,S[S.length-1]? = some u:=⟨_,Xab (by omega)⟩
  obtain⟨v,hv⟩:∃v,T[0]? = some v:=⟨_,Xab (by omega)⟩
  have:=h u v hu hv
  have:=Qwc hS (by omega:i<=S.length-1) i2 hu
  have:=Qwc hT (Xbg j) hv j2
  omega
theorem Zw0 {S T:List Qae}(hS:Srt S) (hT:Srt T) (h:∀u v,S[S.length-1]? = some u->T[0]? = some v->keyP u<keyP v):∀x∈S,∀y∈T,keyP x<keyP y:=by
  intro x hx y hy
  obtain⟨i,i1,i2⟩:=Qwg hx
  obtain⟨j,j1,j2⟩:=Qwg hy
  obtain⟨u,hu⟩:∃u,S[S.length-1]? = some u:=⟨_,Xab (by omega)⟩
  obtain⟨v,hv⟩:∃v,T[0]? = some v:=⟨_,Xab (by omega)⟩
  have:=h u v hu hv
  have:=Qwc hS (by omega:i<=S.length-1) i2 hu
  have:=Qwc hT (Xbg j) hv j2
  omega
end
theorem Zpl {len:Nat}(hlen:len<=1000):∀(n:Nat) (A L R B:List Qae) (a m b:Nat),A.length=a->a+L.length=m->m+R.length=b->b+B.length=len->0<L.length->0<R.length->Srt L->Srt R->Qln L->Qln R->len+(L.length+R.length)<n ->
    ∃Z,Stb (L++R) Z/\Qbb n len a m b (A++L++R++B)=some (A++Z++B):=by
  intro n
  induction n with
  |zero=>intro A L R B a m b _ _ _ _ _ _ _ _ _ _ h;cases h
  |succ N ih=>
    intro A L R B a m b ha hm hb hl hL0 hR0 hL hR sL sR hn
    have hN:len<N:=by omega
    rw[Qbb]
    unfold Qdx
    have e1:w64 ((m:Int)-(a:Int))=(L.length:Int):=by rw[Qa1];omega
    have e2:w64 ((b:Int)-(m:Int))=(R.length:Int):=by rw[Qa1];omega
    have hD1:A++L++R++B=A++L++(R++B):=by simp
    have hD2:A++L++R++B=(A++L)++R++B:=rfl
    have hAL:(A++L).length=m:=by simp;omega
    have gL:=fun c (h1:a<=c) (h2:c<m)=>idx hD1 ha h1 (by omega:c<a+L.length)
    have gR:=fun c (h1:m<=c) (h2:c<b)=>idx hD2 hAL h1 (by omega:c<m+R.length)
    simp only[Qb0,e1,e2]
    by_cases hL1:L.length=1
    · rw[show((L.length:Int)==1)=true from by simp[hL1],Xak]
      obtain⟨x,rfl⟩:=List.length_eq_one_iff.1 hL1
      have hx:(A++[x]++R++B)[a]? = some x:=at_i (L:=A) (M:=R++B) (by simp) ha
      have sx:=sL x (by simp)
      let p:Nat->Bool:=fun c=>match (A++[x]++R++B)[c]? with |some u=>decide (keyP u<keyP x) |none=>false
      have hpe:∀c u,(A++[x]++R++B)[c]? = some u->p c=decide (keyP u<keyP x):=fun c u h=>by
        show(match (A++[x]++R++B)[c]? with |some u=>decide (keyP u<keyP x) |none=>false)=_
        rw[h]
      have anti:Anti p m b:=fun i j i1 i2 i3 hj=>by
        obtain⟨u,u1,_,u3⟩:=gR i i1 (by omega)
        obtain⟨v,v1,_,v3⟩:=gR j (by omega) i3
        rw[hpe j v v1,Xbw] at hj
        rw[hpe i u u1,Xbw]
        have:=Qwc hR (by omega:i-m<=j-m) u3 v3
        omega
      obtain⟨r,r1,r2,r3,r4,r5⟩:=Zy1 (N:=N) (len:=len) a (A++[x]++R++B) p m b anti (by omega) hlen (by simp at hm;omega) (fun c c1 c2=>by
        obtain⟨u,u1,u2,_⟩:=gR c c1 c2
        exact⟨u,x,u1,hx,sR u u2,sx,(hpe c u u1).symm⟩) N m b (by omega) (by omega) (Xay _) (Xay _) (fun i i1 i2=>by omega) (fun i i1 i2=>by omega)
      obtain⟨R1,R2,hRR,hR1⟩:=cut R (r-m) (by omega)
      have c1:∀y∈R1,keyP y<keyP x:=fun y hy=>by
        obtain⟨i,i1,i2⟩:=Qwg hy
        obtain⟨u,u1,_,u3⟩:=gR (m+i) (by omega) (by omega)
        have:=r3 (m+i) (by omega) (by omega)
        rw[hpe _ u u1,Xbw] at this
        rw[hRR,show m+i-m=i from by omega,Xas i1,i2] at u3
        cases u3
        exact this
      have c2:∀y∈R2,keyP x<=keyP y:=fun y hy=>by
        obtain⟨i,i1,i2⟩:=Qwg hy
        have hlR:R.length=R1.length+R2.length:=by rw[hRR];simp
        obtain⟨u,u1,_,u3⟩:=gR (r+i) (by omega) (by omega)
        have:=r4 (r+i) (by omega) (by omega)
        rw[hpe _ u u1,Xbx] at this
        rw[hRR,show r+i-m=R1.length+i from by omega,Xam (by omega),Xdm,i2] at u3
        cases u3
        omega
      have hR':=hR
      rw[hRR] at hR'
      refine⟨R1++(x::R2),?_,?_⟩
      · have:=Q2m (L1:=[]) (L2:=[x]) (R1:=R1) (R2:=R2) (Z1:=R1) (Z2:=x::R2) (Xe8 ..) hR' (fun _ h=>by cases h) (fun y hy z hz=>by
          rw[Xbq] at hz
          subst hz
          exact c1 y hy) (Qm7 (Qnk hR')) (Qm7 (Xc2.2 ⟨c2,Qnj hR'⟩))
        rw[hRR]
        simpa using this
      rw[r5]
      have:=Zwd (N:=N) hlen (fun y95=>some y95) x r N A R1 (R2++B) (by omega) (by simp at hm;omega) (by rw[hRR] at hb;simp at hb hm ⊢;omega)
      rw[ha] at this
      rw[hRR]
      simp only[Xan,Xda,Xa9] at this ⊢
      exact this
    rw[show((L.length:Int)==1)=false from by simp;omega,Xai]
    by_cases hR1:R.length=1
    · rw[show((R.length:Int)==1)=true from by simp[hR1],Xak]
      obtain⟨y,rfl⟩:=List.length_eq_one_iff.1 hR1
      have hy:(A++L++[y]++B)[m]? = some y:=at_i (L:=A++L) (M:=B) (by simp) hAL
      have sy:=sR y (by simp)
      let p:Nat->Bool:=fun c=>match (A++L++[y]++B)[c]? with |some v=>!decide (keyP y<keyP v) |none=>false
      have hpe:∀c v,(A++L++[y]++B)[c]? = some v->p c=!decide (keyP y<keyP v):=fun c v h=>by
        show(match (A++L++[y]++B)[c]? with |some v=>!decide (keyP y<keyP v) |none=>false)=_
        rw[h]
      have anti:Anti p a m:=fun i j i1 i2 i3 hj=>by
        obtain⟨u,u1,_,u3⟩:=gL i i1 (by omega)
        obtain⟨v,v1,_,v3⟩:=gL j (by omega) i3
        rw[hpe j v v1] at hj
        rw[hpe i u u1]
        have h1:=Quj hj
        have h2:=Qwc hL (by omega:i-a<=j-a) u3 v3
        simp only[Xdw,Xbx]
        omega
      obtain⟨r,r1,r2,r3,r4,r5⟩:=Zy2 (N:=N) (len:=len) m (A++L++[y]++B) p a m anti (by omega) hlen (by simp at hb;omega) (fun c c1 c2=>by
        obtain⟨v,v1,v2,_⟩:=gL c c1 c2
        exact⟨y,v,hy,v1,sy,sL v v2,(hpe c v v1).symm⟩) N a m (by omega) (by omega) (Xay _) (Xay _) (fun i i1 i2=>by omega) (fun i i1 i2=>by omega)
      obtain⟨L1,L2,hLL,hLl⟩:=cut L (r-a) (by omega)
      have hlL:L.length=L1.length+L2.length:=by rw[hLL];simp
      have c1:∀z∈L1,keyP z<=keyP y:=fun z hz=>by
        obtain⟨i,i1,i2⟩:=Qwg hz
        obtain⟨u,u1,_,u3⟩:=gL (a+i) (by omega) (by omega)
        have:=r3 (a+i) (by omega) (by omega)
        rw[hpe _ u u1] at this
        rw[hLL,show a+i-a=i from by omega,Xas i1,i2] at u3
        cases u3
        exact Quj this
      have c2:∀z∈L2,keyP y<keyP z:=fun z hz=>by
        obtain⟨i,i1,i2⟩:=Qwg hz
        obtain⟨u,u1,_,u3⟩:=gL (r+i) (by omega) (by omega)
        have:=r4 (r+i) (by omega) (by omega)
        rw[hpe _ u u1] at this
        rw[hLL,show r+i-a=L1.length+i from by omega,Xam (by omega),Xdm,i2] at u3
        cases u3
        exact Q5u this
      have hL':=hL
      rw[hLL] at hL'
      refine⟨(L1++[y])++L2,?_,?_⟩
      · have hs:Srt (L1++[y]):=Xco.2 ⟨Qnk hL',Xe8 ..,fun z hz w hw=>by
          rw[Xbq] at hw
          subst hw
          exact c1 z hz⟩
        have:=Q2m (L1:=L1) (L2:=L2) (R1:=[y]) (R2:=[]) (Z1:=L1++[y]) (Z2:=L2) hL' (Xe8 ..) (fun _ _ _ h=>by cases h) (fun z hz w hw=>by
          rw[Xbq] at hz
          subst hz
          exact c2 w hw) (Qm7 hs) (by simpa using Qm7 (Qnj hL'))
        rw[hLL]
        simpa using this
      rw[r5]
      have:=Zmh (N:=N) hlen (fun y55=>some y55) y r N (A++L1) L2 B (by omega) (by simp;omega) (by simp at hb ⊢;omega)
      have e3:(((A++L1).length+L2.length:Nat):Int)=(m:Int):=by simp;omega
      rw[e3] at this
      rw[hLL]
      simp only[Xan,Xda,Xa9] at this ⊢
      exact this
    rw[show((R.length:Int)==1)=false from by simp;omega,Xai]
    obtain⟨s,s1,s2,s3,s4,s5,s6,s7⟩:=seek (N:=N) hlen hN ha hm hb hl hL hR sL sR hL0 hR0
    generalize hmid:(a+b)/2=mid at s3 s4 s5 s6 s7
    have e3:w64 ((IntKind.wrap .u64 (w64 ((a:Int)+(b:Int))))/2)=(mid:Int):=by rw[half a b (by omega),hmid]
    have e4:w64 ((w64 ((mid:Int)+(m:Int)))-1)=((mid+m-1:Nat):Int):=by
      rw[Qa1 (x:=(mid:Int)+(m:Int)),Qa1];omega
    have e5:w64 ((w64 ((mid:Int)+(m:Int)))-(s:Int))=((mid+m-s:Nat):Int):=by
      rw[Qa1 (x:=(mid:Int)+(m:Int)),Qa1];omega
    rw[e3]
    simp only[Xaa,e4]
    have s7':=fun K=>s7 K
    simp only[Xaa] at s7'
    rw[s7']
    simp only[e5]
    obtain⟨L1,L2,hLL,hL1'⟩:=cut L (s-a) (by omega)
    obtain⟨R1,R2,hRR,hR1'⟩:=cut R (mid-s) (by omega)
    have hlL:L.length=L1.length+L2.length:=by rw[hLL];simp
    have hlR:R.length=R1.length+R2.length:=by rw[hRR];simp
    have hL':=hL
    rw[hLL] at hL'
    have hR':=hR
    rw[hRR] at hR'
    have c1:∀x∈L1,∀y∈R2,keyP x<=keyP y:=fun x hx y hy=>Zw1 (Qnk hL') (Qnj hR') (fun u v hu hv=>by
      have l1:0<L1.length:=Xfc hx
      have l2:0<R2.length:=Xfc hy
      refine s5 u v (by omega) (by omega) (by omega) ?_ ?_
      · rw[hLL,Xas (by omega),show s-1-a=L1.length-1 from by omega];exact hu
      rw[hRR,Xam (by omega),show mid-s-R1.length=0 from by omega];exact hv) x hx y hy
    have c2:∀x∈R1,∀y∈L2,keyP x<keyP y:=fun x hx y hy=>Zw0 (Qnk hR') (Qnj hL') (fun u v hu hv=>by
      have l1:0<R1.length:=Xfc hx
      have l2:0<L2.length:=Xfc hy
      refine s6 v u (by omega) (by omega) ?_ ?_
      · rw[hLL,Xam (by omega),show s-a-L1.length=0 from by omega];exact hv
      rw[hRR,Xas (by omega),show mid-s-1=R1.length-1 from by omega];exact hu) x hx y hy
    have rot:∀K:List Qae->Option (List Qae),(bif decide ((s:Int)<(m:Int)) then bif decide ((m:Int)<((mid+m-s:Nat):Int)) then(Qc3 N len s m ((mid+m-s:Nat):Int) (A++L++R++B)).bind fun x31=>K x31 else K (A++L++R++B) else K (A++L++R++B))=K (A++L1++R1++(L2++R2++B)):=by
      intro K
      have ed:A++L++R++B=(A++L1)++L2++R1++(R2++B):=by rw[hLL,hRR];simp
      by_cases q1:s<m
      · rw[show decide ((s:Int)<(m:Int))=true from Xae (by omega),Xak]
        by_cases q2:m<mid+m-s
        · rw[show decide ((m:Int)<((mid+m-s:Nat):Int))=true from Xae (by omega),Xak,ed,
            Zv0 (N:=N) (len:=len) s m (mid+m-s) hlen hN (A++L1) L2 R1 (R2++B) (by omega) (by omega) (by simp;omega) (by omega) (by omega) (by simp;omega),Xaa]
          simp
        rw[show decide ((m:Int)<((mid+m-s:Nat):Int))=false from Xah (by omega),Xai,ed]
        have:R1=[]:=Xau (by omega)
        rw[this]
        simp
      rw[show decide ((s:Int)<(m:Int))=false from Xah (by omega),Xai,ed]
      have:L2=[]:=Xau (by omega)
      rw[this]
      simp
    have sL1:Qln L1:=fun z hz=>sL z (by rw[hLL];simp[hz])
    have sL2:Qln L2:=fun z hz=>sL z (by rw[hLL];simp[hz])
    have sR1:Qln R1:=fun z hz=>sR z (by rw[hRR];simp[hz])
    have sR2:Qln R2:=fun z hz=>sR z (by rw[hRR];simp[hz])
    have one:∃Z1,Stb (L1++R1) Z1/\∀K:List Qae->Option (List Qae),(bif decide ((a:Int)<(s:Int)) then bif decide ((s:Int)<(mid:Int)) then(Qbb N len a s mid (A++L1++R1++(L2++R2++B))).bind fun x27=>K x27 else K (A++L1++R1++(L2++R2++B)) else K (A++L1++R1++(L2++R2++B)))=K (A++Z1++(L2++R2++B)):=by
      by_cases q1:a<s
      · by_cases q2:s<mid
        · obtain⟨Z1,z1,z2⟩:=ih A L1 R1 (L2++R2++B) a s mid ha (by omega) (by omega) (by simp;omega) (by omega) (by omega) (Qnk hL') (Qnk hR') sL1 sR1 (by omega)
          refine⟨Z1,z1,fun K=>?_⟩
          rw[show decide ((a:Int)<(s:Int))=true from Xae (by omega),show decide ((s:Int)<(mid:Int))=true from Xae (by omega),z2]
          rfl
        have:R1=[]:=Xau (by omega)
        refine⟨L1++R1,by rw[this,Xbn];exact Qm7 (Qnk hL'),fun K=>?_⟩
        rw[show decide ((a:Int)<(s:Int))=true from Xae (by omega),show decide ((s:Int)<(mid:Int))=false from Xah (by omega)]
        simp
      have:L1=[]:=Xau (by omega)
      refine⟨L1++R1,by rw[this,Xa9];exact Qm7 (Qnk hR'),fun K=>?_⟩
      rw[show decide ((a:Int)<(s:Int))=false from Xah (by omega)]
      simp
    obtain⟨Z1,z1,k1⟩:=one
    have hz1:Z1.length=L1.length+R1.length:=by rw[Stb.len z1.eqf];simp
    have two:∃Z2,Stb (L2++R2) Z2/\(bif decide ((mid:Int)<((mid+m-s:Nat):Int)) then bif decide (((mid+m-s:Nat):Int)<(b:Int)) then(Qbb N len mid ((mid+m-s:Nat):Int) b (A++Z1++(L2++R2++B))).bind fun x23=>some x23 else some (A++Z1++(L2++R2++B)) else some (A++Z1++(L2++R2++B)))=some (A++(Z1++Z2)++B):=by
      by_cases q1:mid<mid+m-s
      · by_cases q2:mid+m-s<b
        · obtain⟨Z2,z2,z3⟩:=ih (A++Z1) L2 R2 B mid (mid+m-s) b (by simp;omega) (by omega) (by omega) hl (by omega) (by omega) (Qnj hL') (Qnj hR') sL2 sR2 (by omega)
          refine⟨Z2,z2,?_⟩
          rw[show decide ((mid:Int)<((mid+m-s:Nat):Int))=true from Xae (by omega),show decide (((mid+m-s:Nat):Int)<(b:Int))=true from Xae (by omega)]
          rw[show A++Z1++(L2++R2++B)=(A++Z1)++L2++R2++B from by simp,z3]
          simp
        have:R2=[]:=Xau (by omega)
        refine⟨L2++R2,by rw[this,Xbn];exact Qm7 (Qnj hL'),?_⟩
        rw[show decide ((mid:Int)<((mid+m-s:Nat):Int))=true from Xae (by omega),show decide (((mid+m-s:Nat):Int)<(b:Int))=false from Xah (by omega)]
        simp
      have:L2=[]:=Xau (by omega)
      refine⟨L2++R2,by rw[this,Xa9];exact Qm7 (Qnj hR'),?_⟩
      rw[show decide ((mid:Int)<((mid+m-s:Nat):Int))=false from Xah (by omega)]
      simp
    obtain⟨Z2,z2,k2⟩:=two
    refine⟨Z1++Z2,?_,?_⟩
    · rw[hLL,hRR]
      exact Q2m hL' hR' c1 c2 z1 z2
    rw[rot,k1,k2]
inductive Bl (bs:Nat):List Qae->Prop
  |short {l:List Qae}:l.length<=bs->Srt l->Bl bs l
  |cons {l r:List Qae}:l.length=bs->Srt l->Bl bs r->Bl bs (l++r)
theorem Bl.one {bs:Nat}{l:List Qae}(h:Bl bs l) (hl:l.length<=bs):Srt l:=by
  cases h with
  |short _ hs=>exact hs
  |cons h1 h2 h3=>
    rename_i l r
    have:r=[]:=Xau (by simp at hl;omega)
    rw[this,Xbn]
    exact h2
section
variable {N len : Nat}
theorem Znw (hlen:len<=1000) (hN:len<N) (K:Int×List Qae->Option (List Qae)) :
    ∀(n:Nat) (A S:List Qae),S.length<n->A.length+S.length=len->Qln S ->
    ∃D T,S.length=D.length+T.length/\T.length<20/\Qln T/\(∀k,flt k (D++T)=flt k S)/\(∀Z,T.length=Z.length->Srt Z->Bl 20 (D++Z)) /\
      Qb4 N len len K n (A.length:Int) ((A.length+20:Nat):Int) (A++S)=K (((A++D).length:Nat),A++D++T):=by
  intro n
  induction n with
  |zero=>intro A S h;cases h
  |succ n ih=>
    intro A S hn hl hS
    rw[Qb4]
    by_cases hc:20<=S.length
    · rw[show decide (((A.length+20:Nat):Int)<=(len:Int))=true from Xae (by omega),Xak]
      obtain⟨S1,S2,hSS,hS1⟩:=cut S 20 hc
      have hlS:S.length=S1.length+S2.length:=by rw[hSS];simp
      obtain⟨Z,z1,z2⟩:=Zpy (N:=N) (len:=len) A.length (A.length+20) A S1 S2 rfl hlen hN (fun z hz=>hS z (by rw[hSS];simp[hz])) (by omega) (by omega)
      have hZ:=Stb.len z1.eqf
      have e1:w64 (((A.length+20:Nat):Int)+20)=(((A++Z).length+20:Nat):Int):=by
        rw[Qa1];simp;omega
      have e2:((A.length+20:Nat):Int)=(((A++Z).length:Nat):Int):=by simp;omega
      obtain⟨D,T,d1,d2,d3,d4,d5,d6⟩:=ih (A++Z) S2 (by omega) (by simp;omega) (fun z hz=>hS z (by rw[hSS];simp[hz]))
      refine⟨Z++D,T,by simp;omega,d2,d3,fun k=>?_,fun W hW sW=>?_,?_⟩
      · rw[Xan,Qkh,z1.eqf,d4,<-Qkh,hSS]
      · rw[Xan]
        exact .cons (by omega) z1.srt (d5 W hW sW)
      rw[hSS,<-Xan A S1 S2,z2,Xaa,e1,e2,d6]
      simp
    rw[show decide (((A.length+20:Nat):Int)<=(len:Int))=false from Xah (by omega),Xai]
    exact⟨[],S,by simp,by omega,hS,fun _=>rfl,fun Z hZ sZ=>.short (by simp;omega) sZ,by simp⟩
theorem Bl.two {bs:Nat}(h0:1<=bs) {S:List Qae}(h:Bl bs S) (hl:bs<S.length):∃L R,S=L++R/\L.length=bs/\Srt L/\Bl bs R:=by
  cases h with
  |short h1 _=>omega
  |cons h1 h2 h3=>exact⟨_,_,rfl,h1,h2,h3⟩
theorem Bl.next {bs:Nat}(h0:1<=bs) {S:List Qae}(h:Bl bs S) (hl:bs<=S.length):∃L R,S=L++R/\L.length=bs/\Srt L/\Bl bs R:=by
  rcases Xbj hl with e |hlt
  · exact⟨S,[],by simp,e.symm,h.one (by omega),.short (Xbg _) Zgx⟩
  exact h.two h0 hlt
theorem Zhe (hlen:len<=1000) (hN:2*len<N) {bs:Nat}(h0:1<=bs) (hbs:bs<=1000) (K:List Qae->Option (List Qae)) :
    ∀(n:Nat) (A S:List Qae),S.length<n->A.length+S.length=len->Qln S->Bl bs S ->
    ∃S',Bl (2*bs) S'/\(∀k,flt k S'=flt k S)/\Qb5 N len len bs (fun ⟨y13,y14⟩=>
       bif (decide ((w64 (y13+(bs:Int)))<(len:Int))) then
        (Qbb N len y13 (w64 (y13+(bs:Int))) len y14).bind fun x18=>K x18
       else K y14) n (A.length:Int) ((A.length+2*bs:Nat):Int) (A++S)=K (A++S'):=by
  intro n
  induction n with
  |zero=>intro A S h;cases h
  |succ n ih=>
    intro A S hn hl hS hB
    rw[Qb5]
    have e0:w64 ((A.length:Int)+(bs:Int))=((A.length+bs:Nat):Int):=Qa1
    have e9:w64 (2*(bs:Int))=((2*bs:Nat):Int):=by rw[Qa1];omega
    by_cases hc:2*bs<=S.length
    · rw[show decide (((A.length+2*bs:Nat):Int)<=(len:Int))=true from Xae (by omega),Xak,e0,e9]
      obtain⟨L,S1,hS1,l1,l2,l3⟩:=hB.next h0 (by omega)
      have q1:S.length=L.length+S1.length:=by rw[hS1];simp
      obtain⟨R,S2,hS2,r1,r2,r3⟩:=l3.next h0 (by omega)
      have q2:S1.length=R.length+S2.length:=by rw[hS2];simp
      have sS1:Qln S1:=fun z hz=>hS z (by rw[hS1];simp[hz])
      obtain⟨Z,z1,z2⟩:=Zpl hlen N A L R S2 A.length (A.length+bs) (A.length+2*bs) rfl (by omega) (by omega) (by omega) (by omega) (by omega) l2 r2 (fun z hz=>hS z (by rw[hS1];simp[hz])) (fun z hz=>sS1 z (by rw[hS2];simp[hz])) (by omega)
      have hZ:=Stb.len z1.eqf
      simp only[Xb1] at hZ
      have e1:w64 (((A.length+2*bs:Nat):Int)+((2*bs:Nat):Int))=(((A++Z).length+2*bs:Nat):Int):=by
        rw[Qa1];simp;omega
      have e2:((A.length+2*bs:Nat):Int)=(((A++Z).length:Nat):Int):=by simp;omega
      obtain⟨S',s1,s2,s3⟩:=ih (A++Z) S2 (by omega) (by simp;omega) (fun z hz=>sS1 z (by rw[hS2];simp[hz])) r3
      refine⟨Z++S',.cons (by omega) z1.srt s1,fun k=>?_,?_⟩
      · rw[Qkh,z1.eqf,s2,<-Qkh,hS1,hS2,Xan]
      rw[hS1,hS2,show A++(L++(R++S2))=A++L++R++S2 from by simp,z2,Xaa,e1,Xaa,e2,s3]
      simp
    rw[show decide (((A.length+2*bs:Nat):Int)<=(len:Int))=false from Xah (by omega),Xai]
    simp only[e0]
    by_cases hc2:bs<S.length
    · rw[show decide (((A.length+bs:Nat):Int)<(len:Int))=true from Xae (by omega),Xak]
      obtain⟨L,R,hS1,l1,l2,l3⟩:=hB.two h0 hc2
      have q1:S.length=L.length+R.length:=by rw[hS1];simp
      obtain⟨Z,z1,z2⟩:=Zpl hlen N A L R [] A.length (A.length+bs) len rfl (by omega) (by omega) (by simp) (by omega) (by omega) l2 (l3.one (by omega)) (fun z hz=>hS z (by rw[hS1];simp[hz])) (fun z hz=>hS z (by rw[hS1];simp[hz])) (by omega)
      have hZ:=Stb.len z1.eqf
      simp only[Xb1] at hZ
      refine⟨Z,.short (by omega) z1.srt,fun k=>by rw[z1.eqf,hS1],?_⟩
      rw[hS1,show A++(L++R)=A++L++R++[] from by simp,z2,Xaa,Xbn]
    rw[show decide (((A.length+bs:Nat):Int)<(len:Int))=false from Xah (by omega),Xai]
    exact⟨S,.short (by omega) (hB.one (by omega)),fun _=>rfl,rfl⟩
theorem Zik (hlen:len<=1000) (hN:2*len<N):∀(n bs:Nat) (D:List Qae),len-bs<n->1<=bs->bs<=1000->D.length=len->Qln D->Bl bs D ->
    ∃D',Srt D'/\(∀k,flt k D'=flt k D)/\Qaz N len len n bs D=some D':=by
  intro n
  induction n with
  |zero=>intro bs D h;cases h
  |succ n ih=>
    intro bs D hn h0 hbs hl hS hB
    rw[Qaz]
    by_cases hc:bs<len
    · rw[show decide ((bs:Int)<(len:Int))=true from Xae (by omega),Xak]
      have e1:w64 (2*(bs:Int))=((0+2*bs:Nat):Int):=by rw[Qa1];omega
      have e2:w64 ((bs:Int)*2)=((2*bs:Nat):Int):=by rw[Qa1];omega
      simp only[Qb0,e1,e2]
      obtain⟨S',s1,s2,s3⟩:=Zhe (N:=N) hlen hN h0 hbs (fun x=>Qaz N len len n ((2*bs:Nat):Int) x) N [] D (by omega) (by simpa using hl) hS hB
      simp only[Xcg,Xa9,show((0:Nat):Int)=0 from rfl] at s3
      have hS':=Stb.len s2
      by_cases hb2:2*bs<=1000
      · obtain⟨D',d1,d2,d3⟩:=ih (2*bs) S' (by omega) (by omega) hb2 (by omega) (Stb.small s2 hS) s1
        exact⟨D',d1,fun k=>(d2 k).trans (s2 k),s3.trans d3⟩
      refine⟨S',s1.one (by omega),s2,s3.trans ?_⟩
      cases n with
      |zero=>omega
      |succ n=>
        rw[Qaz,show decide (((2*bs:Nat):Int)<(len:Int))=false from Xah (by omega)]
        rfl
    rw[show decide ((bs:Int)<(len:Int))=false from Xah (by omega),Xai]
    exact⟨D,hB.one (by omega),fun _=>rfl,rfl⟩
end
theorem Zrh {N:Nat}{D:List Qae}(hlen:D.length<=1000) (hN:2*D.length<N) (h20:1000<N) (hS:Qln D):∃D',Stb D D'/\Qec N D.length D=some D':=by
  unfold Qec Qcy Qey
  simp only[Qb0]
  obtain⟨A,T,d1,d2,d3,d4,d5,d6⟩:=Znw (N:=N) (len:=D.length) hlen (by omega) (fun ⟨y2,y3⟩=>(Qb2 N D.length y2 D.length y3).bind fun x6=>Qaz N D.length D.length N 20 x6) N [] D (by omega) (by simp) hS
  simp only[Xcg,Xa9,Xar,show((0:Nat):Int)=0 from rfl,show((20:Nat):Int)=20 from rfl] at d6
  obtain⟨Z,z1,z2⟩:=Zpy (N:=N) (len:=D.length) A.length D.length A T [] rfl hlen (by omega) d3 (by omega) (by simp)
  rw[Xbn,Xbn] at z2
  have hZ:=Stb.len z1.eqf
  have hf:∀k,flt k (A++Z)=flt k D:=fun k=>by rw[Qkh,z1.eqf,<-Qkh,d4]
  obtain⟨D',e1,e2,e3⟩:=Zik (N:=N) (len:=D.length) hlen hN N 20 (A++Z) (by omega) (by omega) (by omega) (Stb.len hf) (Stb.small hf hS) (d5 Z hZ.symm z1.srt)
  refine⟨D',⟨e1,fun k=>(e2 k).trans (hf k)⟩,?_⟩
  rw[d6]
  simp only[z2,Xaa]
  rw[show(20:Int)=((20:Nat):Int) from rfl,e3]
  rfl
end
section
def Qn6:List Qay->Int->Int
 |[],_=>0
 |s::l,n=>min n s.Amount*s.Price+Qn6 l (n-min n s.Amount)
def Qhd (l:List Qay):Int:=(l.map (·.Amount)).sum
def Qs4:List Qae->Int->Int
 |[],m=>m
 |o::l,m=>Qs4 l (m-min m o.Stair.Amount)
def Zjl:List Qae->Int->Int
 |[],_=>0
 |o::l,m=>min m o.Stair.Amount*o.Stair.Price+Zjl l (m-min m o.Stair.Amount)
def Qg6 (i:Int):List Qae->Int->Int
 |[],_=>0
 |o::l,m=>(if o.inlet=i then min m o.Stair.Amount else 0)+Qg6 i l (m-min m o.Stair.Amount)
def ofO (i:Int) (D:List Qae):List Qay:=(D.filter fun o=>decide (o.inlet=i)).map (·.Stair)
def OffV (D:List Qae):Prop:=∀o∈D,Qr4 o.Stair
def Quf (i:Int) (o:Qae) (l:List Qae):ofO i (o::l)=if o.inlet=i then o.Stair::ofO i l else ofO i l:=by
 unfold ofO
 rw[Xfn]
 by_cases h:o.inlet=i
 ·rw[Xaz h,Xaz (Xae h),Xax]
 rw[Xat h,Xat (by simpa using h)]
def Qxa:∀(D:List Qae),OffV D->∀(m:Int),0<=m->0<=Qs4 D m/\Qs4 D m<=m
 |[],_,m,h=>⟨h,Xbp _⟩
 |o::l,hD,m,h=>by
  have ho:=(hD o (by simp)).a
  have:=Qxa l (fun x hx=>hD x (Xal _ hx)) (m-min m o.Stair.Amount) (by omega)
  simp only[Qs4]
  omega
def Qvl (i:Int):∀(D:List Qae),OffV D->Qg6 i D 0=0
 |[],_=>rfl
 |o::l,hD=>by
  have ho:=(hD o (by simp)).a
  have e:min (0:Int) o.Stair.Amount=0:=by omega
  simp only[Qg6]
  rw[e,Xhx,Qvl i l fun x hx=>hD x (Xal _ hx)]
  split<;>rfl
def Qmm (i:Int):∀(D:List Qae),OffV D->∀(m:Int),0<=m->0<=Qg6 i D m/\Qg6 i D m<=Qhd (ofO i D)
 |[],_,m,h=>⟨Xbp _,Xbp _⟩
 |o::l,hD,m,h=>by
  have ho:=(hD o (by simp)).a
  have:=Qmm i l (fun x hx=>hD x (Xal _ hx)) (m-min m o.Stair.Amount) (by omega)
  rw[Quf]
  simp only[Qg6]
  by_cases hi:o.inlet=i
  ·rw[Xaz hi,Xaz hi]
   have:Qhd (o.Stair::ofO i l)=o.Stair.Amount+Qhd (ofO i l):=by simp[Qhd]
   omega
  rw[Xat hi,Xat hi]
  omega
def Qvu:∀(l:List Qay),(∀s∈l,1<=s.Amount)->Qn6 l 0=0
 |[],_=>rfl
 |s::l,h=>by
  have hs:=h s (by simp)
  have e:min (0:Int) s.Amount=0:=by omega
  simp only[Qn6]
  rw[e,Xhx,Qvu l fun x hx=>h x (Xal _ hx)]
  simp
def Zjj (i:Int) (o:Qae) (l:List Qae) (hD:OffV (o::l)) (m:Int) (h:0<=m) :
  Qn6 (ofO i (o::l)) (Qg6 i (o::l) m)=(if o.inlet=i then min m o.Stair.Amount*o.Stair.Price else 0)+Qn6 (ofO i l) (Qg6 i l (m-min m o.Stair.Amount)):=by
 have ho:=(hD o (by simp)).a
 have hl:OffV l:=fun x hx=>hD x (Xal _ hx)
 rw[Quf]
 simp only[Qg6]
 by_cases hi:o.inlet=i
 ·rw[Xaz hi,Xaz hi,Xaz hi]
  simp only[Qn6]
  have hb:=Qmm i l hl (m-min m o.Stair.Amount) (by omega)
  by_cases hf:o.Stair.Amount<=m
  ·rw[show min m o.Stair.Amount=o.Stair.Amount by omega] at hb ⊢
   rw[show min (o.Stair.Amount+Qg6 i l (m-o.Stair.Amount)) o.Stair.Amount=o.Stair.Amount by omega,show o.Stair.Amount+Qg6 i l (m-o.Stair.Amount)-o.Stair.Amount=Qg6 i l (m-o.Stair.Amount) by omega]
  rw[show min m o.Stair.Amount=m by omega,Int.sub_self,Qvl i l hl,Xeq,show min m o.Stair.Amount=m by omega,Int.sub_self]
 rw[Xat hi,Xat hi,Xat hi,Xep,Xep]
def sumI (f:Nat->Int):Nat->Int
 |0=>0
 |n+1=>sumI f n+f n
def Qu7 {f g:Nat->Int}:∀{n:Nat},(∀i,i<n->f i=g i)->sumI f n=sumI g n
 |0,_=>rfl
 |n+1,h=>by rw[sumI,sumI,Qu7 (n:=n) fun i hi=>h i (by omega),h n (by omega)]
def Q2j (f g:Nat->Int):∀n,sumI (fun i=>f i+g i) n=sumI f n+sumI g n
 |0=>rfl
 |n+1=>by rw[sumI,sumI,sumI,Q2j f g n];omega
def Qx8:∀n,sumI (fun _=>0) n=0
 |0=>rfl
 |n+1=>by rw[sumI,Qx8 n];rfl
def Q2i {c:Int}{x:Int}:∀n:Nat,0<=c->sumI (fun i=>if c=(i:Int) then x else 0) n=if c<n then x else 0
 |0,h=>by rw[Xat (by omega)];rfl
 |n+1,h=>by
  rw[sumI,Q2i n h]
  by_cases h1:c<n
  ·rw[Xaz h1,Xat (by omega),Xaz (by omega),Xeq]
  rw[Xat h1,Xep]
  by_cases h2:c=(n:Int)
  ·rw[Xaz h2,Xaz (by omega)]
  rw[Xat h2,Xat (by omega)]
def Q3l (n:Nat):∀(D:List Qae),OffV D->(∀o∈D,0<=o.inlet/\o.inlet<n)->∀(m:Int),0<=m->sumI (fun i=>Qn6 (ofO i D) (Qg6 i D m)) n=Zjl D m
 |[],_,_,m,_=>Qx8 n
 |o::l,hD,hi,m,h=>by
  have ho:=(hD o (by simp)).a
  have hx:=hi o (by simp)
  have ih:=Q3l n l (fun x hx=>hD x (Xal _ hx)) (fun x hx=>hi x (Xal _ hx)) (m-min m o.Stair.Amount) (by omega)
  rw[Qu7 fun i _=>Zjj (i:Int) o l hD m h,Q2j,Q2i n hx.1,Xaz hx.2,ih]
  rfl
def Qxb (n:Nat):∀(D:List Qae),OffV D->(∀o∈D,0<=o.inlet/\o.inlet<n)->∀(m:Int),0<=m->sumI (fun i=>Qg6 i D m) n=m-Qs4 D m
 |[],_,_,m,_=>by rw[show(fun i:Nat=>Qg6 (i:Int) [] m)=fun _=>0 from rfl,Qx8];simp[Qs4]
 |o::l,hD,hi,m,h=>by
  have ho:=(hD o (by simp)).a
  have hx:=hi o (by simp)
  have ih:=Qxb n l (fun x hx=>hD x (Xal _ hx)) (fun x hx=>hi x (Xal _ hx)) (m-min m o.Stair.Amount) (by omega)
  rw[Qu7 fun i _=>show Qg6 (i:Int) (o::l) m=(if o.inlet=(i:Int) then min m o.Stair.Amount else 0)+Qg6 (i:Int) l (m-min m o.Stair.Amount) from rfl,Q2j,Q2i n hx.1,Xaz hx.2,ih]
  simp only[Qs4]
  omega
end
section
def offL (cl:Qb3->Bool):Nat->List Qb3->List Qae
 |_,[]=>[]
 |i,x::l=>(if cl x=true then[] else x.Stairs.map fun s=>(⟨s,(i:Int)⟩:Qae))++offL cl (i+1) l
def off8 {N:Nat}{t:Qav}{b:Qbj}{R B:Nat->Int}{x:Qb3}{c:Bool}(hc:Qbk N t.Sites t.Tests R B b x=some c) (hx:x.Stairs.length<=6) (m:Int) (k:List Qae->Option ((List Int)×Int×Int)):∀(n i:Nat) (acc:List Qae),(x.Stairs.drop i).length<n->acc.length+(x.Stairs.drop i).length<=1000 ->
  Qfn N t b (R,B) m k x n i acc=k (acc++(if c=true then[] else(x.Stairs.drop i).map fun s=>(⟨s,m⟩:Qae))):=by
 intro n
 induction n with
 |zero=>intro i _ h;cases h
 |succ n ih=>
  intro i acc h ha
  rw[Qfn]
  cases hd:x.Stairs.drop i with
  |nil=>
   have:=Qca hd
   rw[Xah (show ¬((i:Int)<x.Stairs.length) by omega),Xai,Xbz,ite_self,Xbn]
  |cons s q=>
   obtain⟨hg,hd',hlt⟩:=Qbn hd
   rw[hd] at h ha
   simp only[Xa5] at h ha
   have e1:w64 ((i:Int)+1)=((i+1:Nat):Int):=by rw[Qa1];omega
   have hcc:Qbk N t.Sites t.Tests ((R,B):(Nat->Int)×(Nat->Int)).1 ((R,B):(Nat->Int)×(Nat->Int)).2 b x=some c:=hc
   rw[Xae (show(i:Int)<x.Stairs.length by omega),Xak,Qb8 hg,Xaa,hcc,Xaa,e1]
   cases c with
   |true=>
    rw[show(!true)=false from rfl,Xai,ih (i+1) acc (by rw[hd'];omega) (by rw[hd'];omega)]
    rfl
   |false=>
    rw[show(!false)=true from rfl,Xak,chkT (Xae (by simp only[Xa5,Xcg];omega)),ih (i+1) _ (by rw[hd'];omega) (by rw[hd',Xb1,Xa5,Xcg];omega),hd',Xan]
    rfl
def off7 {N:Nat}(hN:1000<=N) {t:Qav}{b:Qbj}{R B:Nat->Int}(cl:Qb3->Bool) (hc:∀x∈b.Inlets,Qbk N t.Sites t.Tests R B b x=some (cl x)) (h10:b.Inlets.length<=10) (h6:∀x∈b.Inlets,x.Stairs.length<=6) (k:List Qae->Option ((List Int)×Int×Int)):∀(n i:Nat) (acc:List Qae),(b.Inlets.drop i).length<n->acc.length+6*(b.Inlets.drop i).length<=1000 ->
  Qfo N t b (R,B) k n i acc=k (acc++offL cl i (b.Inlets.drop i)):=by
 intro n
 induction n with
 |zero=>intro i _ h;cases h
 |succ n ih=>
  intro i acc h ha
  rw[Qfo]
  cases hd:b.Inlets.drop i with
  |nil=>
   have:=Qca hd
   rw[Xah (show ¬((i:Int)<b.Inlets.length) by omega),Xai,offL,Xbn]
  |cons x q=>
   obtain⟨hg,hd',hlt⟩:=Qbn hd
   rw[hd] at h ha
   simp only[Xa5] at h ha
   have hm:=Xac hg
   have hx:=h6 x hm
   have e1:w64 ((i:Int)+1)=((i+1:Nat):Int):=by rw[Qa1];omega
   rw[Xae (show(i:Int)<b.Inlets.length by omega),Xak,Qcs,Qb8 hg,Xaa]
   refine(off8 (hc x hm) hx (i:Int) _ N 0 acc (by rw[Xap];omega) (by rw[Xap];omega)).trans ?_
   rw[Xap]
   show Qfo N t b (R,B) k n (w64 ((i:Int)+1)) (acc++if cl x=true then[] else x.Stairs.map fun s=>(⟨s,(i:Int)⟩:Qae))=_
   rw[e1,ih (i+1) _ (by rw[hd'];omega) (by
    rw[hd',Xb1]
    split
    ·simp only[Xcg];omega
    rw[Xb3];omega),hd',offL,Xan]
def Qp9:List Qae->Int->Int->Int
 |[],_,p=>p
 |o::l,m,p=>Qp9 l (m-min m o.Stair.Amount) (if min m o.Stair.Amount>0 then o.Stair.Price else p)
def Zyk (N:Nat) (o:Qae) (ho:Qr4 o.Stair) (nI:Nat) (hi:0<=o.inlet/\o.inlet<nI) (m p:Int) (ms:List Int) (hm:0<=m) (hl:ms.length=nI) (hb:∀x∈ms,0<=x/\x+m<=1000000) (hm1:m<=1000000) :
  ∃ms',Qie N o m nI p ms=some (m-min m o.Stair.Amount,(if min m o.Stair.Amount>0 then o.Stair.Price else p),ms')/\ms'.length=nI/\(∀x∈ms',0<=x/\x+(m-min m o.Stair.Amount)<=1000000)/\∀(i:Nat) (x:Int),ms[i]? = some x->ms'[i]? = some (x+if o.inlet=(i:Int) then min m o.Stair.Amount else 0):=by
 have ha:=ho.a
 unfold Qie
 rw[Xaa]
 have e:(if o.Stair.Amount<m then o.Stair.Amount else m)=min m o.Stair.Amount:=by split<;>omega
 rw[e]
 by_cases h0:min m o.Stair.Amount>0
 ·have hk:o.inlet.toNat<ms.length:=by omega
  obtain⟨y,hy⟩:∃y,ms[o.inlet.toNat]? = some y:=⟨_,Xab hk⟩
  have hyb:=hb y (Xac hy)
  have hch:(decide (0<=o.inlet)&&decide (o.inlet.toNat<nI))=true:=by rw[Xae hi.1,Xae (by omega)];rfl
  rw[Xae h0,Xak,chkT hch,hy,Xaa,chkT hch,Xaa,Qa1 (x:=m-_),Qa1 (x:=y+_)]
  rw[Xaz h0]
  refine⟨_,rfl,by rw[Xgu];exact hl,fun x hx=>?_,fun i x hx=>?_⟩
  ·rcases Xd8 hx with hm' |rfl
   ·have:=hb x hm';omega
   omega
  by_cases hj:o.inlet=(i:Int)
  ·have:o.inlet.toNat=i:=by omega
   rw[this] at hy hk ⊢
   rw[hy] at hx
   cases hx
   rw[Xd0 hk,Xaz hj]
  rw[Xci (by omega),hx,Xat hj,Xeq]
 rw[Xah h0,Xai]
 have hz:min m o.Stair.Amount=0:=by omega
 have:m=0:=by omega
 rw[Xat h0]
 refine⟨ms,by rw[hz,Xhx],hl,fun x hx=>by have:=hb x hx;omega,fun i x hx=>?_⟩
 rw[hz,ite_self,Xeq,hx]
def Zyj (N:Nat) (b:Qbj) (D D0:List Qae) (hD:OffV D) (hDl:D0.length=D.length) (h60:D.length<=1000) (hi:∀o∈D,0<=o.inlet/\o.inlet<b.Inlets.length) (k:Int×Int×(List Int)->Option ((List Int)×Int×Int)):∀(n j:Nat) (m p:Int) (ms:List Int),(D.drop j).length<n->0<=m->m<=1000000->ms.length=b.Inlets.length->(∀x∈ms,0<=x/\x+m<=1000000) ->
  ∃ms',Qe8 N b D0 k D n j m p ms=k (Qs4 (D.drop j) m,Qp9 (D.drop j) m p,ms')/\ms'.length=b.Inlets.length/\(∀x∈ms',0<=x/\x<=1000000)/\∀(i:Nat) (x:Int),ms[i]? = some x->ms'[i]? = some (x+Qg6 i (D.drop j) m):=by
 intro n
 induction n with
 |zero=>intro j _ _ _ h;cases h
 |succ n ih=>
  intro j m p ms h m0 m1 hl hb
  rw[Qe8]
  cases hd:D.drop j with
  |nil=>
   have:=Qca hd
   rw[Xah (show ¬((j:Int)<((D0.length:Nat):Int)) by omega),Xai]
   exact⟨ms,rfl,hl,fun x hx=>by have:=hb x hx;omega,fun i x hx=>by rw[hx,Qg6,Xeq]⟩
  |cons o q=>
   obtain⟨hg,hd',hlt⟩:=Qbn hd
   have hmem:=Xac hg
   have ho:=hD o hmem
   have ha:=ho.a
   obtain⟨ms1,e1,l1,b1,q1⟩:=Zyk N o ho b.Inlets.length (hi o hmem) m p ms m0 hl hb m1
   have hch:(decide (0<=(j:Int))&&decide ((j:Int).toNat<D0.length))=true:=by rw[Xae (by omega),Xae (by omega)];rfl
   rw[Xae (show(j:Int)<((D0.length:Nat):Int) by omega),Xak,chkT hch,Xbf,hg,Xaa,Xbf,show(⟨(⟨o.Stair.Amount,o.Stair.Price⟩:Qay),o.inlet⟩:Qae)=o from rfl,e1,Xaa]
   obtain⟨ms2,e2,l2,b2,q2⟩:=ih (j+1) (m-min m o.Stair.Amount) (if min m o.Stair.Amount>0 then o.Stair.Price else p) ms1 (dlt hd hd' h) (by omega) (by omega) l1 b1
   rw[hd'] at e2 q2
   refine⟨ms2,?_,l2,b2,fun i x hx=>?_⟩
   ·show Qe8 N b D0 k D n (w64 ((j:Int)+1)) (m-min m o.Stair.Amount) (if min m o.Stair.Amount>0 then o.Stair.Price else p) ms1=_
    rw[Qa1,show(j:Int)+1=((j+1:Nat):Int) by omega,e2]
    rfl
   rw[q2 i _ (q1 i x hx)]
   simp only[Qg6]
   congr 1
   omega
end
section
def Qyc:∀(l2 l1:List Qay),l1.Perm l2->l1.Pairwise (fun a b=>a.Price<=b.Price)->l2.Pairwise (fun a b=>a.Price<b.Price)->l1=l2
 |[],l1,h,_,_=>List.Perm.eq_nil h
 |b::l2,[],h,_,_=>by have:=h.length_eq;simp at this
 |b::l2,a::l1,h,h1,h2=>by
  have ha:a∈b::l2:=h.mem_iff.1 (by simp)
  have hb:b∈a::l1:=h.mem_iff.2 (by simp)
  obtain⟨p1,q1⟩:=Xc2.1 h1
  obtain⟨p2,q2⟩:=Xc2.1 h2
  have e:a=b:=by
   rcases Xa7.1 ha with e |ha'
   ·exact e
   have h3:=p2 a ha'
   rcases Xa7.1 hb with e |hb'
   ·exact e.symm
   have:=p1 b hb'
   omega
  subst e
  rw[Qyc l2 l1 (List.Perm.cons_inv h) q1 q2]
def Q44:∀(l:List Qay),(∀(j:Nat) (a c:Qay),l[j+1]? = some a->l[j]? = some c->c.Price<a.Price)->l.Pairwise fun a b=>a.Price<b.Price
 |[],_=>List.Pairwise.nil
 |[x],_=>by simp
 |x::y::l,h=>by
  have ih:=Q44 (y::l) fun j a c h1 h2=>h (j+1) a c (by simpa using h1) (by simpa using h2)
  have hxy:=h 0 y x (by simp) (by simp)
  refine Xc2.2 ⟨fun z hz=>?_,ih⟩
  rcases Xa7.1 hz with rfl |hz
  ·exact hxy
  have:=(Xc2.1 ih).1 z hz
  omega
def Q8c (i:Int) (a b:List Qae):ofO i (a++b)=ofO i a++ofO i b:=by unfold ofO;rw[Xe9,Xdy]
def Zba (i:Int):∀(l:List Qay),ofO i (l.map fun s=>(⟨s,i⟩:Qae))=l
 |[]=>rfl
 |s::l=>by
  rw[Xax,Quf]
  simp only[Xe4]
  rw[Zba i l]
def Qyu {i m:Int}(h:m≠i):∀(l:List Qay),ofO i (l.map fun s=>(⟨s,m⟩:Qae))=[]
 |[]=>rfl
 |s::l=>by
  rw[Xax,Quf]
  simp only[Xat h]
  exact Qyu h l
def Zhn (cl:Qb3->Bool) {i:Nat}:∀(l:List Qb3) (k:Nat),i<k->ofO (i:Int) (offL cl k l)=[]
 |[],_,_=>rfl
 |x::l,k,h=>by
  rw[offL,Q8c,Zhn cl l (k+1) (by omega),Xbn]
  split
  ·rfl
  exact Qyu (by omega) _
def Zhm (cl:Qb3->Bool) {x:Qb3}:∀(l:List Qb3) (k i:Nat),l[i]? = some x->ofO ((k+i:Nat):Int) (offL cl k l)=if cl x=true then[] else x.Stairs
 |[],_,_,h=>by simp at h
 |y::l,k,0,h=>by
  simp at h
  subst h
  rw[offL,Q8c,Xdq,Zhn cl l (k+1) (by omega),Xbn]
  split
  ·rfl
  exact Zba _ _
 |y::l,k,i+1,h=>by
  rw[offL,Q8c,show k+(i+1)=(k+1)+i by omega,Zhm cl l (k+1) i (by simpa using h)]
  have:ofO (((k+1)+i:Nat):Int) (if cl y=true then[] else y.Stairs.map fun s=>(⟨s,(k:Int)⟩:Qae))=[]:=by
   split
   ·rfl
   exact Qyu (by omega) _
  rw[this,Xa9]
def Zwa (cl:Qb3->Bool):∀(l:List Qb3) (k:Nat),(∀x∈l,Qtg x.Stairs)->(∀o∈offL cl k l,Qr4 o.Stair/\(k:Int)<=o.inlet/\o.inlet<(k:Int)+l.length)/\(offL cl k l).length<=6*l.length
 |[],_,_=>⟨fun o ho=>(by cases ho),Xay _⟩
 |x::l,k,h=>by
  obtain⟨i1,i2⟩:=Zwa cl l (k+1) fun y hy=>h y (Xal _ hy)
  have hx:=h x (by simp)
  have h6:=hx.n
  refine⟨fun o ho=>?_,?_⟩
  ·rw[offL] at ho
   rcases Xby.1 ho with ho |ho
   ·split at ho
    ·cases ho
    obtain⟨s,hs,rfl⟩:=Xba.1 ho
    refine⟨hx.s s hs,?_,?_⟩
    ·exact Xbp _
    simp only[Xa5];omega
   have:=i1 o ho
   simp only[Xa5]
   exact⟨this.1,by omega,by omega⟩
  rw[offL,Xb1,Xa5]
  split
  ·simp only[Xcg];omega
  rw[Xb3];omega
def Zc8 {D D':List Qae}(h:Stb D D') (i:Int) (hr:(ofO i D).Pairwise fun a b=>a.Price<b.Price):ofO i D'=ofO i D:=by
 refine Qyc _ _ ?_ ?_ hr
 ·unfold ofO
  exact((Stb.perm h.2).filter _).map _
 unfold ofO
 refine List.pairwise_map.2 ?_
 exact(h.1.sublist List.filter_sublist).imp fun hab=>hab
end
section
def Zrp {N:Nat}(hN:1000<=N):Qed N=some []:=by
 obtain⟨n,rfl⟩:∃n,N=n+1:=⟨N-1,by omega⟩
 have e1:Qce (n+1) 0 0=some ():=by
  unfold Qce
  rw[show w64 (0+1)=1 from by decide,Qb1]
  rfl
 have e2:Qdz (n+1) 0=some ():=by
  unfold Qdz
  rw[Qcs,Qci,show decide ((20:Int)<=0)=false from rfl,Xai,e1,Xaa,Qc0]
  rfl
 unfold Qed Qcz
 rw[e2]
 rfl
structure OffS (b:Qbj) (cl:Qb3->Bool) (D:List Qae):Prop where
 v:OffV D
 i:∀o∈D,0<=o.inlet/\o.inlet<b.Inlets.length
 n:D.length<=60
 st:D.Pairwise fun a b=>a.Stair.Price<=b.Stair.Price
 o:∀(i:Nat) x,b.Inlets[i]? = some x->ofO (i:Int) D=if cl x=true then[] else x.Stairs
def Zlz {N:Nat}{t:Qav}{b:Qbj}(hN:150000000<=N) (hb:Qo5 t b) {R B:Nat->Int}(h0:Qeh N t b=some 0) (hk:Qdq N t=some (.inr (R,B))) (cl:Qb3->Bool) (hc:∀x∈b.Inlets,Qbk N t.Sites t.Tests R B b x=some (cl x)) :
  ∃D,OffS b cl D/\∀m,0<=m->m<=1000000->∃ms,ms.length=b.Inlets.length/\(∀(i:Nat),i<b.Inlets.length->ms[i]? = some (Qg6 i D m))/\Qj1 N t b m=some (bif decide (Qs4 D m>0) then([],0,11) else(ms,Qp9 D m 0,0)):=by
 have hl:=hb.il
 have h6:∀x∈b.Inlets,x.Stairs.length<=6:=fun x hx=>(hb.inl x hx).2.n.2
 obtain⟨v1,v2⟩:=Zwa cl b.Inlets 0 fun x hx=>(hb.inl x hx).2
 generalize hD0:offL cl 0 b.Inlets=D0 at v1 v2
 have hof:∀(i:Nat) x,b.Inlets[i]? = some x->ofO (i:Int) D0=if cl x=true then[] else x.Stairs:=fun i x hx=>by
  have:=Zhm cl b.Inlets 0 i hx
  rw[Xar,hD0] at this
  exact this
 have hsm:Qln D0:=fun o ho=>by have:=(v1 o ho).1.p;exact⟨by omega,by omega⟩
 obtain⟨D,hst,hso⟩:=Zrh (N:=N) (D:=D0) (by omega) (by omega) (by omega) hsm
 have hmem:∀o,o∈D↔o∈D0:=fun o=>(Stb.perm hst.2).mem_iff
 have hlen:D.length=D0.length:=(Stb.perm hst.2).length_eq
 have hS:OffS b cl D:=by
  refine⟨fun o ho=>(v1 o ((hmem o).1 ho)).1,fun o ho=>by have:=(v1 o ((hmem o).1 ho)).2;omega,by omega,hst.1.imp fun hab=>hab,fun i x hx=>?_⟩
  rw[Zc8 hst,hof i x hx]
  rw[hof i x hx]
  split
  ·exact List.Pairwise.nil
  exact Q44 _ (hb.inl x (Xac hx)).2.r
 refine⟨D,hS,fun m m0 m1=>?_⟩
 have hrep:∀x∈List.replicate b.Inlets.length (0:Int),0<=x/\x+m<=1000000:=fun x hx=>by
  rw[Xed hx];omega
 have hr0:∀(i:Nat),i<b.Inlets.length->(List.replicate b.Inlets.length (0:Int))[i]? = some 0:=fun i hi=>by
  rw[Xdn,Xaz hi]
 have hlp:(decide (0<=(b.Inlets.length:Int))&&decide (8*(b.Inlets.length:Int)<=281474976710656)&&decide ((b.Inlets.length:Int)<=9223372036854775807))=true:=by
  rw[Xae (by omega),Xae (by omega),Xae (by omega)];rfl
 unfold Qj1
 rw[h0,Xaa,show((0:Int) != 0)=false from rfl,Xai,Qib,Xaa,Qeb.2 ⟨m0,m1⟩,show(!true)=false from rfl,Xai,hk,Xaa]
 dsimp only[Sum.elim_inr]
 have hfin:∀(k98:Int×Int×(List Int)->Option ((List Int)×Int×Int)),∃ms,ms.length=b.Inlets.length/\(∀(i:Nat),i<b.Inlets.length->ms[i]? = some (Qg6 i D m))/\(bif D0.isEmpty then(Qed N).bind fun x103=>Qf9 N b k98 x103 N 0 m 0 (List.replicate (b.Inlets.length:Int).toNat 0) else(Qec N D0.length D0).bind fun x122=>Qe8 N b D0 k98 x122 N 0 m 0 (List.replicate (b.Inlets.length:Int).toNat 0))=k98 (Qs4 D m,Qp9 D m 0,ms):=fun k98=>by
  rw[Xbf]
  cases he:D0.isEmpty with
  |true=>
   have hz:=Xhz.1 he
   rw[hz] at hlen
   have hz':D=[]:=Xgm.1 hlen
   obtain⟨n,hn⟩:∃n,N=n+1:=⟨N-1,by omega⟩
   refine⟨List.replicate b.Inlets.length 0,Xgv,fun i hi=>by rw[hr0 i hi,hz'];rfl,?_⟩
   rw[Xak,Zrp (by omega),Xaa,hz',hn,Qf9]
   rfl
  |false=>
   rw[Xai,hso,Xaa]
   obtain⟨ms,e,l,_,q⟩:=Zyj N b D D0 hS.v hlen.symm (by have:=hS.n;omega) hS.i k98 N 0 m 0 (List.replicate b.Inlets.length 0) (by rw[Xap];have:=hS.n;omega) m0 m1 Xgv hrep
   rw[Xap] at e q
   exact⟨ms,l,fun i hi=>by rw[q i 0 (hr0 i hi),Xep],e⟩
 obtain⟨ms,l,q,e⟩:=hfin fun x=>bif decide (x.1>0) then some ([],0,11) else chk (decide ((b.Inlets.length:Int).toNat<=x.2.2.length)) (some (x.2.2.take (b.Inlets.length:Int).toNat,x.2.1,0))
 refine⟨ms,l,q,?_⟩
 rw[Qcs]
 refine(off7 (N:=N) (by omega) cl hc hl.2 h6 _ N 0 [] (by rw[Xap];omega) (by rw[Xap,Xcg];omega)).trans ?_
 rw[Xap,Xa9,hD0]
 refine(chkT hlp).trans ?_
 rw[Qcs]
 refine e.trans ?_
 cases decide (Qs4 D m>0) with
 |true=>rfl
 |false=>
  rw[Xai,Xai]
  dsimp only
  rw[chkT (Xae (by rw[Xbf,l];exact Xay _)),Xbf,Xcb (by rw[l];exact Xay _)]
end
section
def Q4l (N:Nat) (x:Qb3) (hs:∀s∈x.Stairs,Qr4 s) (hx:x.Stairs.length<=6):∀(n i:Nat) (a:Int),(x.Stairs.drop i).length<n->0<=a->a<=1000000*i->Qem N x (fun y1=>some y1) n a i=some (a+Qhd (x.Stairs.drop i)):=by
 intro n
 induction n with
 |zero=>intro i _ h;cases h
 |succ n ih=>
  intro i a h a0 a1
  rw[Qem]
  cases hd:x.Stairs.drop i with
  |nil=>
   have:=Qca hd
   rw[Xah (show ¬((i:Int)<x.Stairs.length) by omega),Xai]
   simp[Qhd]
  |cons s q=>
   obtain⟨hg,hd',hlt⟩:=Qbn hd
   have ha:=(hs s (Xac hg)).a
   rw[Xae (show(i:Int)<x.Stairs.length by omega),Xak,Qb8 hg,Xaa,Qa1 (x:=(i:Int)+1),Qa1 (x:=a+s.Amount),show(i:Int)+1=((i+1:Nat):Int) by omega,
    ih (i+1) _ (dlt hd hd' h) (by omega) (by omega),hd']
   have:Qhd (s::q)=s.Amount+Qhd q:=by simp[Qhd]
   rw[this,Xfr]
def Zaw {N:Nat}(hN:1000<=N) {x:Qb3}(hx:Qtg x.Stairs):Qip N x=some (Qhd x.Stairs):=by
 have h6:=hx.n
 unfold Qip
 rw[Qcs]
 refine(Q4l N x hx.s h6.2 N 0 0 (by rw[Xap];omega) (Xbp 0) (by omega)).trans ?_
 rw[Xap,Xep]
def Zjk (N:Nat) (x:Qb3) (hs:∀s∈x.Stairs,Qr4 s) (hx:x.Stairs.length<=6):∀(n i:Nat) (m a:Int),(x.Stairs.drop i).length<n->0<=m->m<=1000000->0<=a->a<=1000000000*i->Qet N x (fun y1=>some y1) n m a i=some (a+Qn6 (x.Stairs.drop i) m)/\0<=Qn6 (x.Stairs.drop i) m/\Qn6 (x.Stairs.drop i) m<=1000000000*(x.Stairs.drop i).length:=by
 intro n
 induction n with
 |zero=>intro i _ _ h;cases h
 |succ n ih=>
  intro i m a h m0 m1 a0 a1
  rw[Qet]
  cases hd:x.Stairs.drop i with
  |nil=>
   have:=Qca hd
   rw[Xah (show ¬((i:Int)<x.Stairs.length) by omega),Xai]
   exact⟨by rw[Qn6,Xeq],Xbp _,by rw[Qn6];exact Xbp _⟩
  |cons s q=>
   obtain⟨hg,hd',hlt⟩:=Qbn hd
   have hsv:=hs s (Xac hg)
   have ha:=hsv.a
   have hp:=hsv.p
   have e:(if s.Amount<m then s.Amount else m)=min m s.Amount:=by split<;>omega
   have hb:=bdp (x:=min m s.Amount) (y:=s.Price) (a:=1000000) (b:=1000) (by omega) (by omega) hp.1 hp.2 (by decide)
   obtain⟨i1,i2,i3⟩:=ih (i+1) (m-min m s.Amount) (a+min m s.Amount*s.Price) (dlt hd hd' h) (by omega) (by omega) (by omega) (by omega)
   rw[hd'] at i1 i2 i3
   rw[Xae (show(i:Int)<x.Stairs.length by omega),Xak,Qb8 hg,Xaa,Xaa,Xaa,e,Qa1 (x:=min m s.Amount*s.Price),Qa1 (x:=m-min m s.Amount),Qa1 (x:=a+min m s.Amount*s.Price),w64S (i:=i) (by omega),i1]
   simp only[Qn6,Xa5]
   exact⟨by rw[Xfr],by omega,by omega⟩
def Ztr {N:Nat}(hN:1000<=N) {x:Qb3}(hx:Qtg x.Stairs) {m:Int}(m0:0<=m) (m1:m<=1000000):Qjd N x m=some (Qn6 x.Stairs m)/\0<=Qn6 x.Stairs m/\Qn6 x.Stairs m<=6000000000:=by
 have h6:=hx.n
 unfold Qjd
 rw[Qcs]
 obtain⟨e,b0,b1⟩:=Zjk N x hx.s h6.2 N 0 m 0 (by rw[Xap];omega) m0 m1 (Xbp 0) (by omega)
 rw[Xap] at e b0 b1
 refine⟨?_,b0,by omega⟩
 rw[Xep] at e
 exact e
def Qyy {N:Nat}(hN:1000<=N) {t:Qav}{b:Qbj}(hb:Qo5 t b) {ms:List Int}(hl:ms.length=b.Inlets.length) (hm:∀(i:Nat) x y,b.Inlets[i]? = some x->ms[i]? = some y->0<=y/\y<=Qhd x.Stairs):∀(n i:Nat),(ms.drop i).length<n->Qc5 N b (fun _=>some ((ms.length:Int)==(b.Inlets.length:Int))) ms n i=some true:=by
 have h10:=hb.il
 intro n
 induction n with
 |zero=>intro i h;cases h
 |succ n ih=>
  intro i h
  rw[Qc5]
  cases hd:ms.drop i with
  |nil=>
   have:=Qca hd
   rw[Xah (show ¬((i:Int)<ms.length) by omega),Xai,hl]
   simp
  |cons y q=>
   obtain⟨hg,hd',hlt⟩:=Qbn hd
   obtain⟨x,hx⟩:∃x,b.Inlets[i]? = some x:=⟨_,Xab (by omega)⟩
   have hv:=(hb.inl x (Xac hx)).2
   rw[Xae (show(i:Int)<ms.length by omega),Xak,Qb8 hg,Xaa,Xah (show ¬(i:Int)>=b.Inlets.length by omega),Xai,Qb8 hx,Xaa,Zaw hN hv,Xaa,Qib,Xaa,Qeb.2 (hm i x y hx hg),show(!true)=false from rfl,Xai,Qa1,show(i:Int)+1=((i+1:Nat):Int) by omega]
   exact ih (i+1) (dlt hd hd' h)
end
section
def Q1a {N:Nat}(hN:1000<=N) {t:Qav}{b:Qbj}(hb:Qo5 t b) {ms:List Int}(g f:Nat->Int) (hm:∀(i:Nat),i<b.Inlets.length->ms[i]? = some (g i)/\0<=g i/\g i<=1000000) (hf:∀(i:Nat) x,b.Inlets[i]? = some x->f i=Qn6 x.Stairs (g i)):∀(n i:Nat),(b.Inlets.drop i).length<n->i<=b.Inlets.length->0<=sumI f i->sumI f i<=6000000000*i ->
  Qgz N b ms (fun y7=>some (y7,0)) n (sumI f i) i=some (sumI f b.Inlets.length,0):=by
 have h10:=hb.il
 intro n
 induction n with
 |zero=>intro i h;cases h
 |succ n ih=>
  intro i h hi s0 s1
  rw[Qgz]
  cases hd:b.Inlets.drop i with
  |nil=>
   have:=Qca hd
   rw[Xah (show ¬((i:Int)<b.Inlets.length) by omega),Xai,show i=b.Inlets.length by omega]
  |cons x q=>
   obtain⟨hg,hd',hlt⟩:=Qbn hd
   have hv:=(hb.inl x (Xac hg)).2
   obtain⟨m1,m2,m3⟩:=hm i hlt
   obtain⟨c1,c2,c3⟩:=Ztr hN hv m2 m3
   rw[Xae (show(i:Int)<b.Inlets.length by omega),Xak,Qb8 hg,Xaa,Qb8 m1,Xaa,c1,Xaa,<-hf i x hg]
   rw[<-hf i x hg] at c2 c3
   rw[Qa1 (x:=sumI f i+f i),w64S (i:=i) (by omega)]
   exact ih (i+1) (dlt hd hd' h) hlt (by rw[sumI];omega) (by rw[sumI];omega)
def Q8g {D:List Qae}(hD:OffV D) (i:Int):∀m,0<=m->Qg6 i D m<=m:=by
 induction D with
 |nil=>exact fun m h=>h
 |cons o l ih=>
  intro m h
  have ho:=(hD o (by simp)).a
  have:=ih (fun x hx=>hD x (Xal _ hx)) (m-min m o.Stair.Amount) (by omega)
  simp only[Qg6]
  split<;>omega
def Znr {N:Nat}(hN:150000000<=N) {t:Qav}{b:Qbj}(hb:Qo5 t b) (h0:Qeh N t b=some 0) {cl:Qb3->Bool}{D:List Qae}(hS:OffS b cl D) {m:Int}(m0:0<=m) (m1:m<=1000000) {ms:List Int}(hl:ms.length=b.Inlets.length) (hm:∀(i:Nat),i<b.Inlets.length->ms[i]? = some (Qg6 i D m)) :
  Qjy N t b ms=some (Zjl D m,0):=by
 have h10:=hb.il
 have bd:∀(i:Nat),0<=Qg6 (i:Int) D m/\Qg6 (i:Int) D m<=1000000:=fun i=>by
  have h1:=(Qmm (i:Int) D hS.v m m0).1
  have h2:=Q8g hS.v (i:Int) m m0
  omega
 have hw:∀(i:Nat) x y,b.Inlets[i]? = some x->ms[i]? = some y->0<=y/\y<=Qhd x.Stairs:=fun i x y hx hy=>by
  have hi:=(Xad.1 hx).1
  rw[hm i hi] at hy
  cases hy
  have h1:=Qmm (i:Int) D hS.v m m0
  rw[hS.o i x hx] at h1
  refine⟨h1.1,?_⟩
  by_cases hc:cl x=true
  ·rw[Xaz hc] at h1
   have:0<=Qhd x.Stairs:=by
    have hv:=(hb.inl x (Xac hx)).2.s
    generalize x.Stairs=l at hv
    induction l with
    |nil=>exact Xbp _
    |cons s l ih=>
     have:=ih fun y hy=>hv y (Xal _ hy)
     have:=(hv s (by simp)).a
     have:Qhd (s::l)=s.Amount+Qhd l:=by simp[Qhd]
     omega
   have:Qhd ([]:List Qay)=0:=rfl
   omega
  rw[Xat hc] at h1
  exact h1.2
 have hmas:Qd9 N b ms=some true:=by
  unfold Qd9
  rw[Qcs]
  exact Qyy (by omega) hb hl hw N 0 (by rw[Xap];omega)
 unfold Qjy
 rw[h0,Xaa,show((0:Int) != 0)=false from rfl,Xai,hmas,Xaa,show(!true)=false from rfl,Xai,Qcs]
 refine(Q1a (N:=N) (by omega) hb (fun i=>Qg6 (i:Int) D m) (fun i=>Qn6 (ofO (i:Int) D) (Qg6 (i:Int) D m)) (fun i hi=>⟨hm i hi,bd i⟩) (fun i x hx=>?_) N 0 (by rw[Xap];omega) (Xbg _) (Xbp 0) (by show(0:Int)<=6000000000*((0:Nat):Int);omega)).trans ?_
 ·rw[hS.o i x hx]
  by_cases hc:cl x=true
  ·rw[Xaz hc]
   have h1:=Qmm (i:Int) D hS.v m m0
   rw[hS.o i x hx,Xaz hc] at h1
   have:Qhd ([]:List Qay)=0:=rfl
   rw[show Qg6 (i:Int) D m=0 by omega,Qvu _ fun s hs=>((hb.inl x (Xac hx)).2.s s hs).a.1]
   rfl
  rw[Xat hc]
 rw[Q3l b.Inlets.length D hS.v hS.i m m0]
end
section
def Zkj (p:Int):List Qay->Int->Prop
 |[],_=>True
 |s::l,m=>(0<min m s.Amount->s.Price<=p)/\(min m s.Amount<s.Amount->p<=s.Price)/\Zkj p l (m-min m s.Amount)
def Zc1 (N:Nat) (x:Qb3) (hs:∀s∈x.Stairs,Qr4 s) (hx:x.Stairs.length<=6) {p:Int}:∀(n i:Nat) (m:Int),(x.Stairs.drop i).length<n->0<=m->m<=1000000->Zkj p (x.Stairs.drop i) m->Qcw N x (fun _=>some true) p n m i=some true:=by
 intro n
 induction n with
 |zero=>intro i _ h;cases h
 |succ n ih=>
  intro i m h m0 m1 hp
  rw[Qcw]
  cases hd:x.Stairs.drop i with
  |nil=>
   have:=Qca hd
   rw[Xah (show ¬((i:Int)<x.Stairs.length) by omega),Xai]
  |cons s q=>
   obtain⟨hg,hd',hlt⟩:=Qbn hd
   have ha:=(hs s (Xac hg)).a
   rw[hd] at hp
   obtain⟨p1,p2,p3⟩:=hp
   have e:(if s.Amount<m then s.Amount else m)=min m s.Amount:=by split<;>omega
   have hn:=ih (i+1) (m-min m s.Amount) (dlt hd hd' h) (by omega) (by omega) (by rw[hd'];exact p3)
   rw[Xae (show(i:Int)<x.Stairs.length by omega),Xak,Qb8 hg,Xaa,Xaa,e,Qa1 (x:=m-min m s.Amount),show w64 ((i:Int)+1)=((i+1:Nat):Int) by rw[Qa1];omega,hn]
   by_cases h1:min m s.Amount>0
   ·have:=p1 h1
    rw[Xae h1,Xak,Xah (show ¬s.Price>p by omega),Xai]
    by_cases h2:min m s.Amount<s.Amount
    ·have:=p2 h2
     rw[Xae h2,Xak,Xah (show ¬s.Price<p by omega),Xai]
    rw[Xah h2,Xai]
   rw[Xah h1,Xai]
   by_cases h2:min m s.Amount<s.Amount
   ·have:=p2 h2
    rw[Xae h2,Xak,Xah (show ¬s.Price<p by omega),Xai]
   rw[Xah h2,Xai]
def Zly {N:Nat}(hN:1000<=N) {x:Qb3}(hx:Qtg x.Stairs) {m p:Int}(m0:0<=m) (m1:m<=1000000) (h:Zkj p x.Stairs m):Qg9 N x m p=some true:=by
 have h6:=hx.n
 unfold Qg9
 rw[Qcs]
 exact Zc1 N x hx.s h6.2 N 0 m (by rw[Xap];omega) m0 m1 (by rw[Xap];exact h)
def Qyi:∀(D:List Qae),OffV D->∀p,Qp9 D 0 p=p
 |[],_,_=>rfl
 |o::l,hD,p=>by
  have ho:=(hD o (by simp)).a
  have e:min (0:Int) o.Stair.Amount=0:=by omega
  simp only[Qp9]
  rw[e,Xhx,Xat (by omega)]
  exact Qyi l (fun x hx=>hD x (Xal _ hx)) p
def Qyj:∀(D:List Qae),(D.Pairwise fun a b=>a.Stair.Price<=b.Stair.Price)->∀(m p:Int),(∀o∈D,p<=o.Stair.Price)->p<=Qp9 D m p
 |[],_,_,p,_=>Xbp p
 |o::l,hs,m,p,h=>by
  obtain⟨h1,h2⟩:=Xc2.1 hs
  have hp:=h o (by simp)
  simp only[Qp9]
  split
  ·have:=Qyj l h2 (m-min m o.Stair.Amount) o.Stair.Price fun x hx=>h1 x hx
   omega
  exact Qyj l h2 _ p fun x hx=>h x (Xal _ hx)
def Qs3 (i:Int):∀(D:List Qae),OffV D->(D.Pairwise fun a b=>a.Stair.Price<=b.Stair.Price)->∀(m p:Int),0<=m->(∀o∈D,p<=o.Stair.Price)->Zkj (Qp9 D m p) (ofO i D) (Qg6 i D m)
 |[],_,_,_,_,_,_=>trivial
 |o::l,hD,hs,m,p,m0,h=>by
  obtain⟨h1,h2⟩:=Xc2.1 hs
  have ho:=(hD o (by simp)).a
  have hl:OffV l:=fun x hx=>hD x (Xal _ hx)
  have hp:=h o (by simp)
  have hpl:∀x∈l,(if min m o.Stair.Amount>0 then o.Stair.Price else p)<=x.Stair.Price:=fun x hx=>by
   split
   ·exact h1 x hx
   exact h x (Xal _ hx)
  have ih:=Qs3 i l hl h2 (m-min m o.Stair.Amount) (if min m o.Stair.Amount>0 then o.Stair.Price else p) (by omega) hpl
  have hge:=Qyj l h2 (m-min m o.Stair.Amount) _ hpl
  have hb:=Qmm i l hl (m-min m o.Stair.Amount) (by omega)
  have hz:=Qvl i l hl
  rw[Quf]
  simp only[Qg6,Qp9]
  by_cases hi:o.inlet=i
  ·rw[Xaz hi,Xaz hi]
   have hu:min (min m o.Stair.Amount+Qg6 i l (m-min m o.Stair.Amount)) o.Stair.Amount=min m o.Stair.Amount:=by
    by_cases hc:o.Stair.Amount<=m
    ·omega
    rw[show m-min m o.Stair.Amount=0 by omega,hz] at hb ⊢
    omega
   refine⟨fun hu0=>?_,fun hu1=>?_,?_⟩
   ·rw[hu] at hu0
    rw[Xaz hu0] at hge ⊢
    exact hge
   ·rw[hu] at hu1
    rw[show m-min m o.Stair.Amount=0 by omega,Qyi l hl]
    split<;>omega
   rw[hu,show min m o.Stair.Amount+Qg6 i l (m-min m o.Stair.Amount)-min m o.Stair.Amount=Qg6 i l (m-min m o.Stair.Amount) by omega]
   exact ih
  rw[Xat hi,Xat hi,Xep]
  exact ih
def Qu5:∀(l:List Qay),(∀s∈l,1<=s.Amount)->0<=Qhd l
 |[],_=>Xbp 0
 |s::l,h=>by
  have:=Qu5 l fun x hx=>h x (Xal _ hx)
  have:=h s (by simp)
  have:Qhd (s::l)=s.Amount+Qhd l:=by simp[Qhd]
  omega
def dual {p:Int}:∀(l:List Qay),(∀s∈l,1<=s.Amount)->∀x y:Int,0<=x->0<=y->x<=Qhd l->y<=Qhd l->Zkj p l x->Qn6 l x-p*x<=Qn6 l y-p*y
 |[],_,x,y,x0,y0,xw,yw,_=>by
  have hw:Qhd ([]:List Qay)=0:=rfl
  rw[show x=0 by omega,show y=0 by omega]
  exact Xbp _
 |s::l,h,x,y,x0,y0,xw,yw,hp=>by
  have hl:∀s∈l,1<=s.Amount:=fun z hz=>h z (Xal _ hz)
  have hs:=h s (by simp)
  have hwl:=Qu5 l hl
  have hw:Qhd (s::l)=s.Amount+Qhd l:=by simp[Qhd]
  obtain⟨p1,p2,p3⟩:=hp
  have ih:=dual l hl (x-min x s.Amount) (y-min y s.Amount) (by omega) (by omega) (by omega) (by omega) p3
  have key:min x s.Amount*s.Price-p*min x s.Amount<=min y s.Amount*s.Price-p*min y s.Amount:=by
   generalize min x s.Amount=u at *
   have hv:min y s.Amount<=s.Amount:=by omega
   have hu:0<=min y s.Amount:=by omega
   generalize min y s.Amount=v at *
   rw[Xgc u,Xgc v,<-Xfz,<-Xfz]
   rcases Int.lt_trichotomy u v with huv |huv |huv
   ·have:=p2 (by omega)
    exact Xbo (by omega) (by omega)
   ·rw[huv];exact Xbp _
   have:=p1 (by omega)
   have h1:(p-s.Price)*v<=(p-s.Price)*u:=Xbo (by omega) (by omega)
   rw[show s.Price-p=-(p-s.Price) by omega,Int.neg_mul,Int.neg_mul]
   omega
  simp only[Qn6]
  rw[Xg6,Xg6] at ih
  generalize Qn6 l (x-min x s.Amount)=c1 at *
  generalize Qn6 l (y-min y s.Amount)=c2 at *
  generalize p*min x s.Amount=a1 at *
  generalize p*min y s.Amount=a2 at *
  generalize min x s.Amount*s.Price=b1 at *
  generalize min y s.Amount*s.Price=b2 at *
  generalize p*x=d1 at *
  generalize p*y=d2 at *
  omega
def Q4u {f g h k:Nat->Int}{p:Int}:∀(n:Nat),(∀i,i<n->f i-p*g i<=h i-p*k i)->sumI f n-p*sumI g n<=sumI h n-p*sumI k n
 |0,_=>Xbp _
 |n+1,hh=>by
  have h1:=Q4u n fun i hi=>hh i (by omega)
  have h2:=hh n (by omega)
  simp only[sumI]
  rw[Xg7,Xg7]
  omega
def Q5s {N:Nat}(hN:1000<=N) {t:Qav}{b:Qbj}(hb:Qo5 t b) {ms:List Int}(hl:ms.length<=20):∀(n i:Nat),(ms.drop i).length<n->∃r,Qc5 N b (fun _=>some ((ms.length:Int)==(b.Inlets.length:Int))) ms n i=some r /\
  (r=true->ms.length=b.Inlets.length/\∀(j:Nat) x y,i<=j->b.Inlets[j]? = some x->ms[j]? = some y->0<=y/\y<=Qhd x.Stairs):=by
 have h10:=hb.il
 intro n
 induction n with
 |zero=>intro i h;cases h
 |succ n ih=>
  intro i h
  rw[Qc5]
  cases hd:ms.drop i with
  |nil=>
   have:=Qca hd
   rw[Xah (show ¬((i:Int)<ms.length) by omega),Xai]
   refine⟨_,rfl,fun hr=>⟨by have:=Xbm.1 hr;omega,fun j x y hj _ hy=>by have:=(Xad.1 hy).1;omega⟩⟩
  |cons y q=>
   obtain⟨hg,hd',hlt⟩:=Qbn hd
   rw[Xae (show(i:Int)<ms.length by omega),Xak,Qb8 hg,Xaa]
   by_cases hi:i<b.Inlets.length
   ·obtain⟨x,hx⟩:∃x,b.Inlets[i]? = some x:=⟨_,Xab hi⟩
    have hv:=(hb.inl x (Xac hx)).2
    rw[Xah (show ¬(i:Int)>=b.Inlets.length by omega),Xai,Qb8 hx,Xaa,Zaw hN hv,Xaa,Qib,Xaa]
    cases hw:btw y 0 (Qhd x.Stairs) with
    |false=>exact⟨false,rfl,fun h=>by cases h⟩
    |true=>
     obtain⟨r,hr,hq⟩:=ih (i+1) (dlt hd hd' h)
     rw[show(!true)=false from rfl,Xai,Qa1,show(i:Int)+1=((i+1:Nat):Int) by omega]
     refine⟨r,hr,fun h=>⟨(hq h).1,fun j x' y' hj hx' hy'=>?_⟩⟩
     rcases Xbj hj with rfl |hlt'
     ·rw[hx] at hx'
      rw[hg] at hy'
      cases hx'
      cases hy'
      exact Qeb.1 hw
     exact(hq h).2 j x' y' hlt' hx' hy'
   rw[Xae (show(i:Int)>=b.Inlets.length by omega),Xak]
   exact⟨false,rfl,fun h=>by cases h⟩
def in0:Qb3:=⟨0,[]⟩
def Zdk (b:Qbj) (ms:List Int) (i:Nat):Int:=Qn6 (b.Inlets.getD i in0).Stairs (ms.getD i 0)
def Zns {N:Nat}(hN:1000<=N) {t:Qav}{b:Qbj}(ht:Qkn t) (hb:Qo5 t b) {ms:List Int}(hl:ms.length<=20) (hm:∀y∈ms,0<=y/\y<=1000000):∃c e,Qjy N t b ms=some (c,e) /\
  (e=0->c=sumI (Zdk b ms) b.Inlets.length/\ms.length=b.Inlets.length/\∀(j:Nat) x y,b.Inlets[j]? = some x->ms[j]? = some y->0<=y/\y<=Qhd x.Stairs):=by
 have h10:=hb.il
 obtain⟨r,hr,hq⟩:=Q5s hN hb hl N 0 (by rw[Xap];omega)
 have hr':Qd9 N b ms=some r:=by unfold Qd9;rw[Qcs];exact hr
 unfold Qjy
 rw[Qup hN ht hb,Xaa,show((0:Int) != 0)=false from rfl,Xai,hr',Xaa]
 cases r with
 |false=>exact⟨0,1,rfl,fun h=>by cases h⟩
 |true=>
  obtain⟨q1,q2⟩:=hq rfl
  rw[show(!true)=false from rfl,Xai,Qcs]
  have hget:∀(i:Nat),i<b.Inlets.length->ms[i]? = some (ms.getD i 0):=fun i hi=>by
   rw[Xaj,Xab (by omega),Xbd]
  refine⟨_,0,Q1a (N:=N) hN hb (fun i=>ms.getD i 0) (Zdk b ms) (fun i hi=>⟨hget i hi,hm _ (Xac (hget i hi))⟩) (fun i x hx=>?_) N 0 (by rw[Xap];omega) (Xbg _) (Xbp 0) (by show(0:Int)<=6000000000*((0:Nat):Int);omega),fun _=>⟨rfl,q1,fun j x y hx hy=>q2 j x y (Xbg _) hx hy⟩⟩
  unfold Zdk
  rw[Xaj,hx,Xbd]
def Q8y {N:Nat}(hN:1000<=N) {t:Qav}{b:Qbj}(ht:Qkn t) (hb:Qo5 t b) {R B:Nat->Int}(hk:Qdq N t=some (.inr (R,B))) (cl:Qb3->Bool) (hc:∀x∈b.Inlets,Qbk N t.Sites t.Tests R B b x=some (cl x)) :
  ∃L,Qlm N t b=some (L,0)/\L.length<=10/\∀(i:Nat) x,b.Inlets[i]? = some x->cl x=true->(i:Int)∈L:=by
 have h10:=hb.il
 have loop:∀(n i:Nat) (A:List Int),(b.Inlets.drop i).length<n->A.length<=i->i<=b.Inlets.length->∃L,Qfe N t b (R,B) (fun y8=>some (y8,0)) n A i=some (L,0)/\L.length<=b.Inlets.length/\(∀x∈A,x∈L)/\∀(j:Nat) x,i<=j->b.Inlets[j]? = some x->cl x=true->(j:Int)∈L:=by
  intro n
  induction n with
  |zero=>intro i _ h;cases h
  |succ n ih=>
   intro i A h hA hi
   rw[Qfe]
   cases hd:b.Inlets.drop i with
   |nil=>
    have:=Qca hd
    rw[Xah (show ¬((i:Int)<b.Inlets.length) by omega),Xai]
    exact⟨A,rfl,by omega,fun x hx=>hx,fun j x hj hx _=>by have:=(Xad.1 hx).1;omega⟩
   |cons x q=>
    obtain⟨hg,hd',hlt⟩:=Qbn hd
    have hcc:Qbk N t.Sites t.Tests ((R,B):(Nat->Int)×(Nat->Int)).1 ((R,B):(Nat->Int)×(Nat->Int)).2 b x=some (cl x):=hc x (Xac hg)
    have hlen:(b.Inlets.drop (i+1)).length<n:=by rw[hd'];rw[hd] at h;simp at h;omega
    rw[Xae (show(i:Int)<b.Inlets.length by omega),Xak,Qb8 hg,Xaa,hcc,Xaa,show w64 ((i:Int)+1)=((i+1:Nat):Int) by rw[Qa1];omega]
    cases hx:cl x with
    |true=>
     obtain⟨L,e,l,a,c⟩:=ih (i+1) (A++[(i:Int)]) hlen (by simp;omega) hlt
     refine⟨L,?_,l,fun z hz=>a z (by simp[hz]),fun j z hj hz hcz=>?_⟩
     ·rw[Xak,chkT (Xae (by simp;omega))];exact e
     rcases Xbj hj with rfl |hlt'
     ·exact a _ (by simp)
     exact c j z hlt' hz hcz
    |false=>
     obtain⟨L,e,l,a,c⟩:=ih (i+1) A hlen (by omega) hlt
     refine⟨L,by rw[Xai];exact e,l,a,fun j z hj hz hcz=>?_⟩
     rcases Xbj hj with rfl |hlt'
     ·rw[hg] at hz
      cases hz
      rw[hx] at hcz
      cases hcz
     exact c j z hlt' hz hcz
 obtain⟨L,e,l,_,c⟩:=loop N 0 [] (by rw[Xap];omega) (Xay _) (Xbg _)
 refine⟨L,?_,by omega,fun i x hx hcx=>c i x (Xbg _) hx hcx⟩
 unfold Qlm
 rw[Qup hN ht hb,Xaa,show((0:Int) != 0)=false from rfl,Xai,hk,Xaa]
 dsimp only[Sum.elim_inr]
 rw[Qcs]
 exact e
def Zl6 {N:Nat}(hN:150000000<=N) {t:Qav}{b:Qbj}(ht:Qkn t) (hb:Qo5 t b) {R B:Nat->Int}(hk:Qdq N t=some (.inr (R,B))) {cl:Qb3->Bool}(hc:∀x∈b.Inlets,Qbk N t.Sites t.Tests R B b x=some (cl x)) {D:List Qae}(hS:OffS b cl D) {m:Int}(m0:0<=m) (m1:m<=1000000) (hr:Qs4 D m<=0) {ms:List Int}(hl:ms.length=b.Inlets.length) (hm:∀(i:Nat),i<b.Inlets.length->ms[i]? = some (Qg6 i D m)) :
  Qjc N t b m ms (Qp9 D m 0)=some true:=by
 have h10:=hb.il
 have bd:∀(i:Nat),0<=Qg6 (i:Int) D m/\Qg6 (i:Int) D m<=1000000:=fun i=>by
  have h1:=(Qmm (i:Int) D hS.v m m0).1
  have h2:=Q8g hS.v (i:Int) m m0
  omega
 have hw:∀(i:Nat) x y,b.Inlets[i]? = some x->ms[i]? = some y->0<=y/\y<=Qhd x.Stairs:=fun i x y hx hy=>by
  have hi:=(Xad.1 hx).1
  rw[hm i hi] at hy
  cases hy
  have h1:=Qmm (i:Int) D hS.v m m0
  rw[hS.o i x hx] at h1
  refine⟨h1.1,?_⟩
  have:=Qu5 x.Stairs fun s hs=>((hb.inl x (Xac hx)).2.s s hs).a.1
  by_cases hc:cl x=true
  ·rw[Xaz hc] at h1
   have:Qhd ([]:List Qay)=0:=rfl
   omega
  rw[Xat hc] at h1
  exact h1.2
 have hmas:Qd9 N b ms=some true:=by
  unfold Qd9
  rw[Qcs]
  exact Qyy (by omega) hb hl hw N 0 (by rw[Xap];omega)
 have hsum:sumI (fun i=>Qg6 (i:Int) D m) b.Inlets.length=m:=by
  rw[Qxb b.Inlets.length D hS.v hS.i m m0]
  have:=(Qxa D hS.v m m0).1
  omega
 have hp0:∀o∈D,(0:Int)<=o.Stair.Price:=fun o ho=>(hS.v o ho).p.1
 have loop:∀(n i:Nat),(b.Inlets.drop i).length<n->i<=b.Inlets.length->0<=sumI (fun i=>Qg6 (i:Int) D m) i->sumI (fun i=>Qg6 (i:Int) D m) i<=1000000*i->Qc4 N t b ms (Qp9 D m 0) (R,B) (fun y6=>some (y6==m)) n (sumI (fun i=>Qg6 (i:Int) D m) i) i=some true:=by
  intro n
  induction n with
  |zero=>intro i h;cases h
  |succ n ih=>
   intro i h hi s0 s1
   rw[Qc4]
   cases hd:b.Inlets.drop i with
   |nil=>
    have:=Qca hd
    rw[Xah (show ¬((i:Int)<b.Inlets.length) by omega),Xai,show i=b.Inlets.length by omega,hsum,Xb8]
   |cons x q=>
    obtain⟨hg,hd',hlt⟩:=Qbn hd
    have hcc:Qbk N t.Sites t.Tests ((R,B):(Nat->Int)×(Nat->Int)).1 ((R,B):(Nat->Int)×(Nat->Int)).2 b x=some (cl x):=hc x (Xac hg)
    have hv:=(hb.inl x (Xac hg)).2
    have hbi:=bd i
    have e:sumI (fun i=>Qg6 (i:Int) D m) i+Qg6 (i:Int) D m=sumI (fun i=>Qg6 (i:Int) D m) (i+1):=rfl
    have hn:=ih (i+1) (dlt hd hd' h) hlt (by rw[<-e];omega) (by rw[<-e];omega)
    have hsh:=Qs3 (i:Int) D hS.v hS.st m 0 m0 hp0
    rw[hS.o i x hg] at hsh
    rw[Xae (show(i:Int)<b.Inlets.length by omega),Xak,Qb8 hg,Xaa,Qb8 (hm i hlt),Xaa,hcc,Xaa,w64S (i:=i) (by omega),Qa1 (x:=sumI (fun i=>Qg6 (i:Int) D m) i+Qg6 (i:Int) D m),e,hn]
    cases hx:cl x with
    |true=>
     have h1:=Qmm (i:Int) D hS.v m m0
     rw[hS.o i x hg,Xaz hx] at h1
     have:Qhd ([]:List Qay)=0:=rfl
     rw[Xak,Xah (show ¬Qg6 (i:Int) D m>0 by omega),Xai]
     rfl
    |false=>
     rw[Xat (by rw[hx];decide)] at hsh
     rw[Xai,show(!false)=true from rfl,Xak,Zly (by omega) hv hbi.1 hbi.2 hsh,Xaa]
     rfl
 unfold Qjc
 rw[Qcs,Qup (by omega) ht hb,Xaa,show((0:Int) != 0)=false from rfl,Xai,hmas,Xaa,show(!true)=false from rfl,Xai,hk,Xaa]
 dsimp only[Sum.elim_inr]
 rw[Qcs]
 exact loop N 0 (by rw[Xap];omega) (Xbg _) (Xbp 0) (by show(0:Int)<=1000000*((0:Nat):Int);omega)
def Zbz {t:Qav}{b:Qbj}(hb:Qo5 t b) {cl:Qb3->Bool}{D:List Qae}(hS:OffS b cl D) {m:Int}(m0:0<=m) (hr:Qs4 D m<=0) {ms:List Int}(hl:ms.length=b.Inlets.length) (hm:∀(j:Nat) x y,b.Inlets[j]? = some x->ms[j]? = some y->0<=y/\y<=Qhd x.Stairs) (hc:∀(j:Nat) x y,b.Inlets[j]? = some x->ms[j]? = some y->cl x=true->y=0) (hsum:sumI (fun i=>ms.getD i 0) b.Inlets.length=m) :
  Zjl D m<=sumI (Zdk b ms) b.Inlets.length:=by
 have hp0:∀o∈D,(0:Int)<=o.Stair.Price:=fun o ho=>(hS.v o ho).p.1
 have hs2:sumI (fun i=>Qg6 (i:Int) D m) b.Inlets.length=m:=by
  rw[Qxb b.Inlets.length D hS.v hS.i m m0]
  have:=(Qxa D hS.v m m0).1
  omega
 have key:=Q4u (f:=fun i=>Qn6 (ofO (i:Int) D) (Qg6 (i:Int) D m)) (g:=fun i=>Qg6 (i:Int) D m) (h:=Zdk b ms) (k:=fun i=>ms.getD i 0) (p:=Qp9 D m 0) b.Inlets.length fun i hi=>by
  have hx:b.Inlets[i]? = some (b.Inlets[i]'hi):=Xab _
  have hy:ms[i]? = some (ms[i]'(by omega)):=Xab _
  generalize b.Inlets[i]'hi=x at hx
  generalize ms[i]'(by omega)=y at hy
  have e1:b.Inlets.getD i in0=x:=by rw[Xaj,hx,Xbd]
  have e2:ms.getD i 0=y:=by rw[Xaj,hy,Xbd]
  obtain⟨y0,y1⟩:=hm i x y hx hy
  have hsa:=fun s hs=>((hb.inl x (Xac hx)).2.s s hs).a.1
  have h1:=Qmm (i:Int) D hS.v m m0
  have hsh:=Qs3 (i:Int) D hS.v hS.st m 0 m0 hp0
  unfold Zdk
  rw[e1,e2]
  rw[hS.o i x hx] at h1 hsh ⊢
  by_cases hcx:cl x=true
  ·rw[Xaz hcx] at h1 hsh ⊢
   have hz:=hc i x y hx hy hcx
   have hw:Qhd ([]:List Qay)=0:=rfl
   rw[hz,show Qg6 (i:Int) D m=0 by omega,Qvu _ hsa]
   exact Xbp _
  rw[Xat hcx] at h1 hsh ⊢
  exact dual x.Stairs hsa _ _ h1.1 y0 h1.2 y1 hsh
 rw[hs2,hsum,Q3l b.Inlets.length D hS.v hS.i m m0] at key
 omega
end
section
def Qlt:Qgi 2000=some true:=by decide +kernel
def Zg0 (N:Nat) {o:List Int}{L:List Int}{e:Int}(hL:L.length<=10) {k:Nat}{y:Int}(hy:o[k]? = some y) (K:Unit->Option Bool):∀(n i:Nat),(L.drop i).length<n->((∀x∈L.drop i,x=(k:Int)->y=0)->K ()=some true)->Qfw N o (L,e) k K n i=some true:=by
 intro n
 induction n with
 |zero=>intro i h;cases h
 |succ n ih=>
  intro i h hK
  rw[Qfw]
  cases hd:L.drop i with
  |nil=>
   have:=Qca hd
   rw[Xah (show ¬((i:Int)<L.length) by omega),Xai]
   exact hK fun x hx=>by rw[hd] at hx;cases hx
  |cons x q=>
   obtain⟨hg,hd',hlt⟩:=Qbn hd
   have hlen:(L.drop (i+1)).length<n:=by rw[hd'];rw[hd] at h;simp at h;omega
   rw[Xae (show(i:Int)<L.length by omega),Xak,Qb8 hg,Xaa,show w64 ((i:Int)+1)=((i+1:Nat):Int) by rw[Qa1];omega]
   by_cases hx:x=(k:Int)
   ·rw[Xbm.2 hx,Xak,Qb8 hy,Xaa]
    by_cases h0:y=0
    ·rw[h0,Xhj,Xai]
     exact ih (i+1) hlen fun _=>hK fun z hz _=>h0
    rw[Xeb.2 h0,Xak,Qlt,Xaa]
   rw[Xct.2 hx,Xai]
   refine ih (i+1) hlen fun hq=>hK fun z hz hzk=>?_
   rw[hd] at hz
   rcases Xa7.1 hz with rfl |hz
   ·exact absurd hzk hx
   exact hq z (by rw[hd'];exact hz) hzk
def Zc7 {N:Nat}(hN:1000<=N) {o:List Int}(ho:o.length<=20) {L:List Int}{e:Int}(hL:L.length<=10) (K:Int->Option Bool):∀(n i:Nat),(o.drop i).length<n->i<=o.length->0<=sumI (fun i=>o.getD i 0) i->sumI (fun i=>o.getD i 0) i<=1000000*i->(∀(j:Nat) y,j<i->o[j]? = some y->(0<=y/\y<=1000000)/\((j:Int)∈L->y=0)) ->
  ((∀(j:Nat) y,o[j]? = some y->(0<=y/\y<=1000000)/\((j:Int)∈L->y=0))->K (sumI (fun i=>o.getD i 0) o.length)=some true)->Qgk N o (L,e) K n (sumI (fun i=>o.getD i 0) i) i=some true:=by
 intro n
 induction n with
 |zero=>intro i h;cases h
 |succ n ih=>
  intro i h hi s0 s1 hv hK
  rw[Qgk]
  cases hd:o.drop i with
  |nil=>
   have:=Qca hd
   rw[Xah (show ¬((i:Int)<o.length) by omega),Xai,show i=o.length by omega]
   exact hK fun j y hj=>hv j y (by have:=(Xad.1 hj).1;omega) hj
  |cons y q=>
   obtain⟨hg,hd',hlt⟩:=Qbn hd
   have hlen:(o.drop (i+1)).length<n:=by rw[hd'];rw[hd] at h;simp at h;omega
   rw[Xae (show(i:Int)<o.length by omega),Xak,Qcs,Qcs]
   refine Zg0 N hL hg _ N 0 (by rw[Xap];omega) fun hs=>?_
   rw[Xap] at hs
   rw[Qb8 hg,Xaa,Qr0,Xaa]
   cases hb:btw y 0 1000000 with
   |false=>rw[show(!false)=true from rfl,Xak,Qlt,Xaa]
   |true=>
    have hy:=Qeb.1 hb
    have ey:o.getD i 0=y:=by rw[Xaj,hg,Xbd]
    have es:sumI (fun i=>o.getD i 0) i+y=sumI (fun i=>o.getD i 0) (i+1):=by simp only[sumI];rw[ey]
    rw[show(!true)=false from rfl,Xai,Qa1 (x:=sumI (fun i=>o.getD i 0) i+y),show w64 ((i:Int)+1)=((i+1:Nat):Int) by rw[Qa1];omega,es]
    refine ih (i+1) hlen hlt (by rw[<-es];omega) (by rw[<-es];omega) (fun j z hj hz=>?_) hK
    rcases Xcm j i with h1 |h1
    ·exact hv j z h1 hz
    obtain rfl:j=i:=by omega
    rw[hg] at hz
    cases hz
    exact⟨hy,fun hm=>hs _ hm rfl⟩
def Zls (N:Nat) {ms:List Int}{p e:Int}(g:Nat->Int) {len:Nat}(hl:ms.length=len) (hlen:len<=10) (hm:∀(i:Nat),i<len->ms[i]? = some (g i)/\0<=g i/\g i<=1000000) (K:Int->Option Bool):∀(n i:Nat),(ms.drop i).length<n->i<=len->0<=sumI g i->sumI g i<=1000000*i->Qgj N (ms,p,e) K n (sumI g i) i=K (sumI g len):=by
 intro n
 induction n with
 |zero=>intro i h;cases h
 |succ n ih=>
  intro i h hi s0 s1
  rw[Qgj]
  cases hd:ms.drop i with
  |nil=>
   have:=Qca hd
   rw[Xah (show ¬((i:Int)<ms.length) by omega),Xai,show i=len by omega]
  |cons y q=>
   obtain⟨hg,hd',hlt⟩:=Qbn hd
   obtain⟨m1,m2,m3⟩:=hm i (by omega)
   rw[Xae (show(i:Int)<ms.length by omega),Xak,Qb8 m1,Xaa,Qa1 (x:=sumI g i+g i),show w64 ((i:Int)+1)=((i+1:Nat):Int) by rw[Qa1];omega]
   exact ih (i+1) (dlt hd hd' h) (by omega) (by rw[sumI];omega) (by rw[sumI];omega)
def Znx (n:GNet) (st:List Int) (ws:List Qaa) (t:Qav) (b:Qbj) (o:List Int) (gn:Zim n) (_:Qy2 st) (_:Qy3 ws) (_:Q52 t) (_:Q56 b) (_:Qy2 o):Qpn (n.Elements.length+150000000) n st ws t b o=some true:=by
 generalize hNN:n.Elements.length+150000000=N
 have hN:150000000<=N:=by omega
 have hl:(n.Elements.length:Int)<=9223372036854775807:=by
  have:=gn.2.1
  rw[Zh2] at this
  omega
 unfold Qpn
 rw[Qcs]
 rcases Zwi (N:=N) (n:=n) (ws:=ws) hl (by omega) with e |⟨e,hs,hw⟩
 ·rw[e,Xaa,Xd9,Xak,Qlt,Xaa]
 rw[e,Xaa,Xb4,Xai]
 by_cases h25:(st.length:Int)>25
 ·rw[Xae h25,Xak,Qlt,Xaa]
 rw[Xah h25,Xai]
 by_cases h20:(o.length:Int)>20
 ·rw[Xae h20,Xak,Qlt,Xaa]
 rw[Xah h20,Xai]
 unfold Qsd
 rw[Xaa]
 cases decide ((t.Tests.length:Int)<=70) with
 |false=>rw[Xd9,Xak,Qlt,Xaa]
 |true=>
 rw[Xb4,Xai]
 cases decide ((b.Inlets.length:Int)>15) with
 |true=>rw[Xak,Qlt,Xaa]
 |false=>
 rw[Xai]
 cases decide ((b.Feeds.length:Int)>15) with
 |true=>rw[Xak,Qlt,Xaa]
 |false=>
 obtain⟨er,he,hv⟩:=Zju (N:=N) (t:=t) (b:=b) (by omega)
 rw[Xai,he,Xaa]
 by_cases h0:er=0
 case neg=>rw[show(er != 0)=true from Xeb.2 h0,Xak,Qlt,Xaa]
 subst h0
 obtain⟨ht,hb⟩:=hv rfl
 have h10:=hb.il
 rw[show((0:Int) != 0)=false from rfl,Xai,Zwc hs (by omega),Xaa,chkT (Xae (by rw[Xcg];omega)),Zcy (show ws.length<=1000 by omega) (by omega),Xaa,Xa9,Zd9 hs (by omega) (show ws.length<=1000 by omega) (show st.length<=1000 by omega),Xaa]
 have htb:Qh9 N t=some t:=Zgr (by omega) ht
 have hbb:Qia N b=some b:=Zjv (t:=t) (by omega) hb
 have bad:∀(x:Qaa×Qaa×Qbp×Int) (K:Option Bool),x.2.2.2≠0->(bif (x.2.2.2 != 0) then(Qgi 2000).bind fun x11=>some x11 else K)=some true:=fun x K hx=>by
  rw[show(x.2.2.2 != 0)=true from Xeb.2 hx,Xak,Qlt,Xaa]
 unfold accA
 by_cases hr:Qp8 n st ws=0
 case neg=>rw[Xat hr];exact bad _ _ hr
 obtain⟨hnv,hst,hf,hnb⟩:=Qyg hr
 rw[Xaz hr]
 cases htk:Q4q n st ws with
 |inl a=>exact bad _ _ (show(11:Int)≠0 by decide)
 |inr r=>
 have hI:=(Q2g hnv hf hst htk).inv
 obtain⟨k1,_,_,_⟩:=Q4p hI hf
 have hov:=Qpz (Zhj hI)
 have hm1:=hf.m
 have hm0:0<=(totS ws).Mass:=(Qpz hf.v).m0
 dsimp only[Q3m]
 rw[show((0:Int) != 0)=false from rfl,Xai,htb,Xaa,hbb,Xaa,k1]
 generalize (totS ws).Mass=m at hm0 hm1
 have hB:Qeh N t b=some 0:=Qup (by omega) ht hb
 have hwm:btw m 0 1000000=true:=Qeb.2 ⟨hm0,hm1⟩
 rcases Zdq hN ht with hk |⟨R,B,hR,hk⟩
 ·have hsx:Qj1 N t b m=some ([],0,9):=by
   unfold Qj1
   rw[hB,Xaa,show((0:Int) != 0)=false from rfl,Xai,Qib,Xaa,hwm,show(!true)=false from rfl,Xai,hk,Xaa]
   rfl
  rw[hsx,Xaa]
  dsimp only
  rw[show((9:Int) != 0)=true from rfl,Xak,show((9:Int)==9)=true from rfl,Xak,Xb8,Xak,Qlt,Xaa]
 obtain⟨cl,hcl⟩:∃cl:Qb3->Bool,∀x∈b.Inlets,Qbk N t.Sites t.Tests R B b x=some (cl x):=
  ⟨fun x=>(Qbk N t.Sites t.Tests R B b x).getD false,fun x hx=>by
   obtain⟨c,hc⟩:=Zjn (N:=N) (by omega) ht hR B (hb.inl x hx).1 hb.fds hb.fl.2
   show _=some ((Qbk N t.Sites t.Tests R B b x).getD false)
   rw[hc]
   rfl⟩
 obtain⟨D,hS,hsh⟩:=Zlz hN hb hB hk cl hcl
 obtain⟨ms,l,q,e⟩:=hsh m hm0 hm1
 rw[e,Xaa]
 by_cases hro:Qs4 D m>0
 ·rw[Xae hro,Xak]
  dsimp only
  rw[show((11:Int) != 0)=true from rfl,Xak,show((11:Int)==9)=false from rfl,Xai,show((11:Int)==11)=true from rfl,Xak,Xb8,Xak,Qlt,Xaa]
 rw[Xah hro,Xai]
 dsimp only
 rw[show((0:Int) != 0)=false from rfl,Xai,Qcs]
 have hro':Qs4 D m<=0:=by omega
 have bd:∀(i:Nat),0<=Qg6 (i:Int) D m/\Qg6 (i:Int) D m<=1000000:=fun i=>by
  have h1:=(Qmm (i:Int) D hS.v m hm0).1
  have h2:=Q8g hS.v (i:Int) m hm0
  omega
 have hsum:sumI (fun i=>Qg6 (i:Int) D m) b.Inlets.length=m:=by
  rw[Qxb b.Inlets.length D hS.v hS.i m hm0]
  have:=(Qxa D hS.v m hm0).1
  omega
 refine(Zls N (fun i=>Qg6 (i:Int) D m) l h10.2 (fun i hi=>⟨q i hi,bd i⟩) _ N 0 (by rw[Xap];omega) (Xbg _) (Xbp 0) (by show(0:Int)<=1000000*((0:Nat):Int);omega)).trans ?_
 rw[hsum]
 obtain⟨L,eL,lL,cL⟩:=Q8y (by omega) ht hb hk cl hcl
 simp only[Xaa,Znr hN hb hB hS hm0 hm1 l q,eL]
 rw[Qcs]
 simp only[show((0:Int) != 0)=false from rfl,Xai,Xhj]
 rw[chkT (Xae (by rw[Xcg];omega)),Xa9,Zl6 hN ht hb hk hcl hS hm0 hm1 hro' l q,Xaa,show(!true)=false from rfl,Xai,Qcs]
 refine Zc7 (by omega) (by omega) lL _ N 0 (by rw[Xap];omega) (Xbg _) (Xbp 0) (by show(0:Int)<=1000000*((0:Nat):Int);omega) (fun j y hj=>by omega) fun hov=>?_
 rw[chkT (Xae (by rw[Xcg];omega)),Xa9]
 obtain⟨c,e2,eC,hC⟩:=Zns (N:=N) (by omega) ht hb (ms:=o) (by omega) fun y hy=>by
  obtain⟨j,hj⟩:=Xcj hy
  exact(hov j y hj).1
 rw[eC,Xaa]
 by_cases hz:e2=0
 case neg=>rw[show(e2 != 0)=true from Xeb.2 hz,Xak,Qlt,Xaa]
 obtain⟨hc1,hc2,hc3⟩:=hC hz
 rw[hz,show((0:Int) != 0)=false from rfl,Xai]
 by_cases hq:sumI (fun i=>o.getD i 0) o.length=m
 case neg=>rw[show(sumI (fun i=>o.getD i 0) o.length != m)=true from Xeb.2 hq,Xak,Qlt,Xaa]
 rw[hq,Xhj,Xai]
 have:=Zbz hb hS hm0 hro' hc2 hc3 (fun j x y hx hy hcx=>(hov j y hy).2 (cL j x hx hcx)) (by rw[<-hc2];exact hq)
 rw[Xae (show c>=Zjl D m by omega),Xak,Qlt,Xaa]
end
end Go.Proofs.YtcoojdacfknboafGreat
