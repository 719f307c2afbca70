/-
  Plain laws on shares: the ranking by Go's stable sort, up to 20 numbers; picking the best again and again takes it from its front. No conditions but sizes.
-/
import Derived.Test.YtmbhnllcfmiajaaGreatPB6
namespace Go.Proofs.YtmbhnllcfmiajaaGreat
open Go.RowKit
def Qje (key:Int→Int) (ls:List Int) (i k:Int):Prop:=key (ls.getD k.toNat 0)<key (ls.getD i.toNat 0)∨(key (ls.getD k.toNat 0)=key (ls.getD i.toNat 0)∧i<k)
theorem Qng {key:Int→Int} {ls:List Int} {i k:Int} (h:Qje key ls i k) (h':Qje key ls k i):False:=by
 unfold Qje at h h'
 omega
theorem Q0r {key:Int→Int} {ls:List Int} {i k m:Int} (h:Qje key ls i k) (h':Qje key ls k m):Qje key ls i m:=by
 unfold Qje at *
 omega
def ixs (n:Nat):List Int:=(List.range n).map fun j:Nat=>(j:Int)
theorem Qh4 (n:Nat):(ixs n).length=n:=by simp [ixs]
theorem Qvn {n i:Nat} (h:i<n):(ixs n)[i]? = some (i:Int):=by simp [ixs,h]
theorem Qrv {n:Nat} {x:Int}:x ∈ ixs n ↔ 0≤x∧x<n:=by
 unfold ixs
 rw [List.mem_map]
 constructor
 ·rintro ⟨j,hj,rfl⟩
  have:=List.mem_range.1 hj
  omega
 ·rintro ⟨h0,h1⟩
  exact ⟨x.toNat,List.mem_range.2 (by omega),by omega⟩
theorem Q9d (n:Nat):(ixs n).Nodup:=List.pairwise_map.2 ((List.nodup_range (n:=n)).imp fun h e=>h (by omega))
section
variable {N L : Nat} {ws : List Int} {M W : Int}
def rkey (M W w:Int):Int:=M * w % W
structure WOk (ws:List Int) (M W:Int):Prop where
 w:∀ x ∈ ws,0≤x∧x≤1000
 m0:0≤M
 m1:M≤1000000
 p0:0<W
 p1:W≤20000
theorem Q8g (h:WOk ws M W) (x:Int):0≤rkey M W x∧rkey M W x<20000:=by
 have:=h.p0
 have:=h.p1
 have a:=Int.emod_nonneg (M * x) (show W ≠ 0 by omega)
 have b:=Int.emod_lt_of_pos (M * x) h.p0
 unfold rkey
 omega
theorem Q2f (h:WOk ws M W) {x:Int} (hx:x ∈ ws):Qe7 N x M W=some (rkey M W x):=by
 obtain ⟨x0,x1⟩:=h.w x hx
 have h0:=h.m0
 have h1:=h.m1
 have p:=h.p0
 have:=bdp h0 h1 x0 x1 (by omega)
 unfold Qe7 chk rkey
 rw [show (W != 0)=true by rw [bne_iff_ne]; omega,cond_true,Qbd (by omega) (by omega),Int.tmod_eq_emod_of_nonneg this.1]
theorem Zmf (h:WOk ws M W) {a b:Int} (ha:0≤a∧a<ws.length) (hb:0≤b∧b<ws.length):Qen N a b ws M W=some (rkey M W (ws.getD b.toNat 0) - rkey M W (ws.getD a.toNat 0)):=by
 have ga:ws[a.toNat]? = some (ws.getD a.toNat 0):=by rw [List.getD_eq_getElem?_getD,List.getElem?_eq_getElem (by omega)]; rfl
 have gb:ws[b.toNat]? = some (ws.getD b.toNat 0):=by rw [List.getD_eq_getElem?_getD,List.getElem?_eq_getElem (by omega)]; rfl
 have ka:=Q8g h (ws.getD a.toNat 0)
 have kb:=Q8g h (ws.getD b.toNat 0)
 unfold Qen
 rw [show getI ws b=some (ws.getD b.toNat 0) from by rw [← gb]; unfold getI; rw [if_pos hb.1],show getI ws a=some (ws.getD a.toNat 0) from by rw [← ga]; unfold getI; rw [if_pos ha.1]]
 simp only [Option.bind_some,Q2f h (List.mem_of_getElem? ga),Q2f h (List.mem_of_getElem? gb)]
 rw [Qbd (by omega) (by omega)]
theorem Zje (h:WOk ws M W) (hL:L≤20) (hLw:L=ws.length) (k:List Int→Option (List Int)) (x:Int) (R:List Int) (hx:0≤x∧x<ws.length):∀ (n:Nat) (P S:List Int),P.length<n→(P++x::S++R).length=L →
  (P++S).Pairwise (Qje (rkey M W) ws)→(∀ s ∈ S,Qje (rkey M W) ws x s)→(∀ y ∈ P++S,0≤y∧y<x) →
  ∃ Q,Qba N L 0 ws M W k n P.length (P++x::S++R)=k (Q++R)∧Q.Perm (P++x::S)∧Q.Pairwise (Qje (rkey M W) ws):=by
 intro n
 induction n with
 | zero=>intro P S hn; exact absurd hn (Nat.not_lt_zero _)
 | succ n ih=>
  intro P S hn hl hp hs hb
  rw [Qba]
  simp only [Qbp]
  rcases List.eq_nil_or_concat P with rfl | ⟨P',y,rfl⟩
  ·refine ⟨x::S,by simp,.refl _,?_⟩
   rw [List.pairwise_cons]
   exact ⟨hs,by simpa using hp⟩
  ·simp only [List.concat_eq_append] at *
   have hlen:(P'++[y]).length=P'.length+1:=by simp
   have hl2:P'.length+1<L:=by rw [← hl]; simp
   have e1:w64 (((P'++[y]).length:Nat) - 1:Int)=(P'.length:Int):=by rw [hlen,Qbd (by omega) (by omega)]; omega
   have e2:(((P'++[y]).length:Nat):Int).toNat=P'.length+1:=by rw [hlen]; omega
   have e3:(P'.length:Int).toNat=P'.length:=by omega
   have gx:(P'++[y]++x::S++R)[P'.length+1]? = some x:=by
    rw [List.append_assoc,List.append_assoc,List.getElem?_append_right (by omega)]
    simp
   have gy:(P'++[y]++x::S++R)[P'.length]? = some y:=by
    rw [List.append_assoc,List.append_assoc,List.getElem?_append_right (by omega)]
    simp
   have hy:=hb y (by simp)
   have c1:(decide ((0:Int)≤(((P'++[y]).length:Nat):Int))&&decide (P'.length+1<L))=true:=by simp; omega
   have c2:(decide ((0:Int)≤(P'.length:Int))&&decide (P'.length<L))=true:=by simp; omega
   have hs1:((P'++[y]++x::S++R).set (P'.length+1) y)[P'.length]? = some y:=by rw [List.getElem?_set_ne (by omega)]; exact gy
   have hsw:((P'++[y]++x::S++R).set (P'.length+1) y).set P'.length x=P'++x::(y::S)++R:=by
    have a1:(P'++[y]++x::S++R).set (P'.length+1) y=P'++[y]++y::S++R:=by
     rw [List.append_assoc,List.append_assoc,List.set_append_right _ _ (by omega),show P'.length+1 - P'.length=1 by omega]
     simp
    rw [a1,List.append_assoc,List.append_assoc,List.set_append_right _ _ (by omega),Nat.sub_self]
    simp
   have hcmp:=Zmf (N:=N) h hx (show 0≤y∧y<ws.length by omega)
   simp only [show decide ((((P'++[y]).length:Nat):Int)>0)=true from decide_eq_true (by rw [hlen]; omega),cond_true,e1,e2,e3,chk,c1,c2,gx,gy,Option.bind_some,hcmp,hs1,hsw]
   by_cases hlt:rkey M W (ws.getD y.toNat 0) - rkey M W (ws.getD x.toNat 0)<0
   ·rw [decide_eq_true hlt,cond_true]
    obtain ⟨Q,q1,q2,q3⟩:=ih P' (y::S) (by rw [hlen] at hn; omega) (by rw [← hl]; simp) (by simpa using hp) (fun s hs'=>by
     rcases List.mem_cons.1 hs' with rfl | hs'
     ·exact .inl (by omega)
     ·exact hs s hs') (fun z hz=>hb z (by simpa using hz))
    refine ⟨Q,q1,q2.trans ?_,q3⟩
    rw [List.append_assoc]
    exact List.Perm.append_left P' (List.Perm.swap y x S)
   ·rw [decide_eq_false hlt,cond_false]
    refine ⟨P'++[y]++x::S,rfl,.refl _,?_⟩
    have hyx:Qje (rkey M W) ws y x:=by unfold Qje; omega
    rw [List.pairwise_append] at hp ⊢
    obtain ⟨p1,p2,p3⟩:=hp
    refine ⟨p1,List.pairwise_cons.2 ⟨hs,p2⟩,fun a ha b hb'=>?_⟩
    have hax:Qje (rkey M W) ws a x:=by
     rcases List.mem_append.1 ha with ha | ha
     ·rw [List.pairwise_append] at p1
      exact Q0r (p1.2.2 a ha y (by simp)) hyx
     ·simp at ha; subst ha; exact hyx
    rcases List.mem_cons.1 hb' with rfl | hb'
    ·exact hax
    ·exact p3 a ha b hb'
theorem Zce (h:WOk ws M W) (hL:L≤20) (hLw:L=ws.length) (hN:1000≤N):∀ (n i:Nat) (Q:List Int),L - i<n→i≤L→Q.Perm ((ixs L).take i)→Q.Pairwise (Qje (rkey M W) ws) →
  ∃ Q',Qaz N L 0 L ws M W n i (Q++(ixs L).drop i)=some Q'∧Q'.Perm (ixs L)∧Q'.Pairwise (Qje (rkey M W) ws):=by
 intro n
 induction n with
 | zero=>intro i _ h; exact absurd h (Nat.not_lt_zero _)
 | succ n ih=>
  intro i Q hn hi hp hq
  rw [Qaz]
  simp only [Qbp]
  by_cases hlt:i<L
  ·have hql:Q.length=i:=by rw [hp.length_eq,List.length_take,Qh4]; omega
   have hd:(ixs L).drop i=(i:Int)::(ixs L).drop (i+1):=by
    have:=Qvn hlt
    have hi2:i<(ixs L).length:=by rw [Qh4]; exact hlt
    rw [List.drop_eq_getElem_cons hi2]
    rw [List.getElem?_eq_getElem hi2] at this
    rw [Option.some.inj this]
   rw [show decide ((i:Int)<(L:Int))=true from by simpa using hlt,cond_true]
   have hmem:∀ y ∈ Q,0≤y∧y<(i:Int):=fun y hy=>by
    have h1:=hp.mem_iff.1 hy
    obtain ⟨j,hj,e⟩:=List.mem_take_iff_getElem.1 h1
    have hj2:j<L:=by rw [Qh4] at hj; omega
    have:=Qvn hj2
    rw [List.getElem?_eq_getElem (by rw [Qh4]; exact hj2),e] at this
    cases this
    omega
   obtain ⟨Q',q1,q2,q3⟩:=Zje (N:=N) h hL hLw (fun y8=>Qaz N L 0 L ws M W n (w64 ((i:Int)+1)) y8) (i:Int) ((ixs L).drop (i+1)) (by omega) N Q [] (by omega) (by simp [Qh4,hql]; omega) (by simpa using hq) (by simp) (by simpa using hmem)
   rw [hql] at q1
   rw [hd]
   have e:Q++(i:Int)::(ixs L).drop (i+1)=Q++[(i:Int)]++(ixs L).drop (i+1):=by simp
   rw [e]
   have t:(ixs L).take (i+1)=(ixs L).take i++[(i:Int)]:=by
    rw [List.take_add_one,Qvn hlt]; rfl
   obtain ⟨Q2,r1,r2,r3⟩:=ih (i+1) Q' (by omega) (by omega) (q2.trans (by rw [t]; exact hp.append_right _)) q3
   refine ⟨Q2,q1.trans ?_,r2,r3⟩
   rw [Qbd (x:=(i:Int)+1) (by omega) (by omega),show (i:Int)+1=((i+1:Nat):Int) by omega]
   exact r1
  ·rw [show decide ((i:Int)<(L:Int))=false from by simpa using hlt,cond_false]
   have hiL:i=L:=by omega
   subst hiL
   rw [List.take_of_length_le (by rw [Qh4]; exact Nat.le_refl _)] at hp
   exact ⟨Q,by rw [List.drop_of_length_le (by rw [Qh4]; exact Nat.le_refl _),List.append_nil],hp,hq⟩
theorem Zb4 (h:WOk ws M W) (hL:ws.length≤20) (h1:1≤ws.length) (hN:1000≤N):∃ Q,Qca N ws.length (ixs ws.length) ws M W=some Q∧Q.Perm (ixs ws.length)∧Q.Pairwise (Qje (rkey M W) ws):=by
 have ht:(ixs ws.length).take 1=[0]:=by
  rw [List.take_add_one,Qvn (by omega)]; rfl
 have hd:(ixs ws.length)=[0]++(ixs ws.length).drop 1:=by rw [← ht,List.take_append_drop]
 obtain ⟨Q,q1,q2,q3⟩:=Zce (N:=N) (L:=ws.length) h hL rfl hN N 1 [0] (by omega) h1 (by rw [ht]) (by simp)
 rw [← hd] at q1
 refine ⟨Q,?_,q2,q3⟩
 obtain ⟨m,rfl⟩:∃ m,N=m+2:=⟨N - 2,by omega⟩
 have hins:Qbe (m+2) ws.length 0 (ws.length:Int) (ixs ws.length) ws M W=some Q:=by
  unfold Qbe
  rw [show w64 ((0:Int)+1)=((1:Nat):Int) from Qbd (by decide) (by decide)]
  exact q1
 unfold Qca Qdy
 simp only [Qbp]
 rw [Qbq]
 by_cases h20:ws.length=20
 ·rw [show decide ((20:Int)≤(ws.length:Int))=true from by simp; omega,cond_true]
  have e20:(20:Int)=(ws.length:Int):=by omega
  rw [show Qbe (m+2) ws.length 0 20 (ixs ws.length) ws M W=some Q from by rw [e20]; exact hins,Option.bind_some,Qbq,show w64 ((20:Int)+20)=40 from Qbd (by decide) (by decide),show decide ((40:Int)≤(ws.length:Int))=false from by simp; omega,cond_false]
  dsimp only
  unfold Qbe
  rw [show w64 ((20:Int)+1)=21 from Qbd (by decide) (by decide),Qaz,show decide ((21:Int)<(ws.length:Int))=false from by simp; omega,cond_false,Option.bind_some,Qbz,show decide ((20:Int)<(ws.length:Int))=false from by simp; omega,cond_false]
  rfl
 ·rw [show decide ((20:Int)≤(ws.length:Int))=false from by simp; omega,cond_false]
  dsimp only
  rw [hins,Option.bind_some,Qbz,show decide ((20:Int)<(ws.length:Int))=false from by simp; omega,cond_false]
  rfl
theorem Zch (ls:List Int) (k:List Int→Option (List Int)) (h8:ls.length≤20):∀ (n i:Nat) (l:List Int),ls.length - i<n→i≤ls.length→l=ixs i →
  Qcn N ls k n i l=k (ixs ls.length):=by
 intro n
 induction n with
 | zero=>intro i _ h; exact absurd h (Nat.not_lt_zero _)
 | succ n ih=>
  intro i l hn hi hl
  rw [Qcn]
  by_cases h:i<ls.length
  ·have e1:w64 ((i:Int)+1)=((i+1:Nat):Int):=Qbd (by omega) (by omega)
   rw [show decide ((i:Int)<(ls.length:Int))=true from by simpa using h,cond_true,e1]
   simp only [chk]
   rw [show decide ((l.length+[(i:Int)].length) * 8≤140737488355328)=true from by rw [hl,Qh4]; simp; omega,cond_true]
   exact ih (i+1) _ (by omega) (by omega) (by rw [hl]; simp [ixs,List.range_succ])
  ·rw [show decide ((i:Int)<(ls.length:Int))=false from by simpa using h,cond_false,hl,show i=ls.length by omega]
theorem Qw6 (h:WOk ws M W) (hL:ws.length≤20) (h1:1≤ws.length) (hN:1000≤N):∃ Q,Qe9 N ws M W=some Q∧Q.Perm (ixs ws.length)∧Q.Pairwise (Qje (rkey M W) ws):=by
 obtain ⟨Q,q1,q2,q3⟩:=Zb4 (N:=N) h hL h1 hN
 refine ⟨Q,?_,q2,q3⟩
 have hlen:=q2.length_eq
 rw [Qh4] at hlen
 unfold Qe9
 simp only [Qbp]
 have:=Zch (N:=N) ws (fun y3=>chk (!y3.isEmpty)<|(Qca N y3.length y3 ws M W).bind fun x7=>chk (decide (y3.length≤x7.length))<|some (x7.take y3.length)) hL N 0 [] (by omega) (by omega) rfl
 refine this.trans ?_
 have he:(!(ixs ws.length).isEmpty)=true:=by
  cases hh:ixs ws.length with
  | nil=>have:=Qh4 ws.length; rw [hh] at this; simp at this; omega
  | cons=>rfl
 simp only [chk,he,cond_true,Qh4,q1,Option.bind_some]
 rw [show decide (ws.length≤Q.length)=true by simp; omega,cond_true,List.take_of_length_le (by omega)]
end
end Go.Proofs.YtmbhnllcfmiajaaGreat
