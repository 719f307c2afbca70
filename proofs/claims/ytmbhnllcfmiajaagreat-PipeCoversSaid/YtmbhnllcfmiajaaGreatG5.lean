/-
  The texts PSb6, PSc6, PN6, POpn, PE6, PTa6, PTb6, PTc6, X7, PRf6, PRs6, PSt6, PRd6, PKo6, PNet, PFt6 of the proof, one behind the other. No conditions.
-/
import Derived.Test.YtmbhnllcfmiajaaGreatG4
namespace Go.Proofs.YtmbhnllcfmiajaaGreat
open _root_.Go.Proofs.Tryz
section
open Go.RowKit
def Qm6 (key:Int→Int) (ls:List Int) (mk:List Bool):Nat→Int
 |0=>-1
 |d+1=>if mk.getD d false=false∧(Qm6 key ls mk d<0∨key (ls.getD (Qm6 key ls mk d).toNat 0)<key (ls.getD d 0)) then d else Qm6 key ls mk d
theorem Qty (key:Int→Int) (ls:List Int) (mk:List Bool):∀d,((∀i,i<d→mk.getD i false=true)∧Qm6 key ls mk d=-1) ∨
  ∃b:Nat,b<d∧Qm6 key ls mk d=b∧mk.getD b false=false∧∀i:Nat,i<d→mk.getD i false=false→i=b∨Qlv key ls b i
 |0=>.inl ⟨fun i h=>absurd h (by omega),rfl⟩
 |d+1=>by
  unfold Qm6
  rcases Qty key ls mk d with ⟨h1,h2⟩ |⟨b,hb,h2,h3,h4⟩
  ·rw[h2]
   cases hm:mk.getD d false with
   |true=>exact .inl ⟨fun i hi=>(Nat.lt_succ_iff_lt_or_eq.1 hi).elim (h1 i) (fun e=>e▸hm),by rw[if_neg (by simp)]⟩
   |false=>
    rw[if_pos ⟨rfl,.inl (by omega)⟩]
    refine .inr ⟨d,by omega,rfl,hm,fun i hi hn=>?_⟩
    rcases Nat.lt_succ_iff_lt_or_eq.1 hi with h |h
    ·rw[h1 i h] at hn;exact absurd hn (by simp)
    ·exact .inl h
  ·rw[h2]
   by_cases hc:mk.getD d false=false∧((b:Int)<0∨key (ls.getD (b:Int).toNat 0)<key (ls.getD d 0))
   ·rw[if_pos hc]
    have hk:key (ls.getD b 0)<key (ls.getD d 0):=hc.2.elim (fun h=>by omega) (fun h=>by simpa using h)
    refine .inr ⟨d,by omega,rfl,hc.1,fun i hi hn=>?_⟩
    rcases Nat.lt_succ_iff_lt_or_eq.1 hi with h |h
    ·rcases h4 i h hn with rfl |h5
     ·exact .inr (.inl (by simpa using hk))
     ·refine .inr (.inl ?_)
      unfold Qlv at h5
      simp only[Int.toNat_natCast] at h5 ⊢
      omega
    ·exact .inl h
   ·rw[if_neg hc]
    refine .inr ⟨b,by omega,rfl,h3,fun i hi hn=>?_⟩
    rcases Nat.lt_succ_iff_lt_or_eq.1 hi with h |rfl
    ·exact h4 i h hn
    ·refine .inr ?_
     have:¬key (ls.getD (b:Int).toNat 0)<key (ls.getD i 0):=fun h=>hc ⟨hn,.inr h⟩
     unfold Qlv
     simp only[Int.toNat_natCast] at this ⊢
     omega
theorem Qye {key:Int→Int}{ls L:List Int}{mk:List Bool}{n k:Nat}(hL:L.Pairwise (Qlv key ls)) (hm:∀i:Nat,i<n→(i:Int)∈L) (hr:∀x∈L,0≤x∧x<n)
  (hmk:∀i:Nat,i<n→(mk.getD i false=true↔(i:Int)∈L.take k)) (hk:k<L.length):Qm6 key ls mk n=L[k]:=by
 have hd:L.Pairwise (· ≠ ·):=hL.imp (fun {a b} h e=>by subst e;exact Qro h h)
 obtain⟨x0,x1⟩:=hr L[k] (List.getElem_mem hk)
 have hx:((L[k].toNat:Nat):Int)=L[k]:=Int.toNat_of_nonneg x0
 have hun:mk.getD L[k].toNat false=false:=by
  cases h:mk.getD L[k].toNat false with
  |false=>rfl
  |true=>
   have:=(hmk _ (by omega)).1 h
   rw[hx,List.mem_take_iff_getElem] at this
   obtain⟨i,hi,e⟩:=this
   exact absurd e ((List.pairwise_iff_getElem.1 hd) i k (by omega) hk (by omega))
 rcases Qty key ls mk n with ⟨h1,_⟩ |⟨b,hb,h2,h3,h4⟩
 ·rw[h1 _ (by omega)] at hun
  exact absurd hun (by simp)
 ·rw[h2]
  rcases h4 L[k].toNat (by omega) hun with h |h
  ·omega
  ·exfalso
   obtain⟨j,hj,e⟩:=List.getElem_of_mem (hm b hb)
   have hjk:¬j<k:=fun hlt=>by
    have:=(hmk b hb).2 (by rw[List.mem_take_iff_getElem];exact⟨j,by omega,e⟩)
    rw[h3] at this
    exact absurd this (by simp)
   rw[hx] at h
   rcases Nat.lt_or_eq_of_le (Nat.le_of_not_lt hjk) with h5 |h5
   ·have:=(List.pairwise_iff_getElem.1 hL) k j hk hj h5
    rw[e] at this
    exact Qro h this
   ·subst h5
    rw[e] at h
    exact Qro h h
def mark (l:List Bool) (i:Int):List Bool:=l.set i.toNat true
theorem Qwe (l:List Bool) (i:Int):(mark l i).length=l.length:=by simp[mark]
theorem Q2c (p:List Int):∀l:List Bool,(p.foldl mark l).length=l.length:=by
 induction p with
 |nil=>exact fun _=>rfl
 |cons x r ih=>exact fun l=>(ih (mark l x)).trans (Qwe l x)
theorem Q83 (p:List Int):∀(l:List Bool) (i:Nat),i<l.length→(∀x∈p,0≤x)→((p.foldl mark l).getD i false=true↔((i:Int)∈p∨l.getD i false=true)):=by
 induction p with
 |nil=>exact fun l i _ _=>by simp
 |cons x r ih=>
  intro l i hi h0
  have hx:=h0 x List.mem_cons_self
  rw[List.foldl_cons,ih (mark l x) i (by rw[Qwe];exact hi) (fun y hy=>h0 y (List.mem_cons_of_mem _ hy)),List.mem_cons]
  have e:(mark l x).getD i false=true↔((i:Int)=x∨l.getD i false=true):=by
   simp only[mark,List.getD_eq_getElem?_getD,List.getElem?_set]
   by_cases h:x.toNat=i
   ·have:(i:Int)=x:=by omega
    simp[h,hi,this]
   ·have:¬(i:Int)=x:=by omega
    simp[h,this]
  rw[e]
  constructor
  ·rintro (h |h |h)
   ·exact .inl (.inr h)
   ·exact .inl (.inl h)
   ·exact .inr h
  ·rintro ((h |h) |h)
   ·exact .inr (.inl h)
   ·exact .inl h
   ·exact .inr (.inr h)
theorem Qx6 {L:List Int}{n k:Nat}(hr:∀x∈L,0≤x∧x<n) (i:Nat) (hi:i<n):(((L.take k).foldl mark (List.replicate n false)).getD i false=true↔(i:Int)∈L.take k):=by
 rw[Q83 _ _ _ (by simpa using hi) (fun x hx=>(hr x (List.mem_of_mem_take hx)).1)]
 simp[hi,List.getD_eq_getElem?_getD]
def bump (l:List Int) (i:Int):List Int:=l.set i.toNat (l.getD i.toNat 0+1)
theorem Qkz (l:List Int) (i:Int):(bump l i).length=l.length:=by simp[bump]
theorem Q2z (p:List Int):∀l:List Int,(p.foldl bump l).length=l.length:=by
 induction p with
 |nil=>exact fun _=>rfl
 |cons x r ih=>exact fun l=>(ih (bump l x)).trans (Qkz l x)
theorem Q20:∀(is l:List Int),is.Nodup→(∀x∈is,0≤x∧x<l.length)→∀i:Nat,i<l.length→(is.foldl bump l)[i]? = some (l.getD i 0+if (i:Int)∈is then 1 else 0)
 |[],l,_,_,i,hi=>by simp[List.getD_eq_getElem?_getD,hi]
 |x::is,l,hn,hb,i,hi=>by
  obtain⟨hx,hn'⟩:=List.nodup_cons.1 hn
  have hbx:=hb x (by simp)
  have ih:=Q20 is (bump l x) hn' (fun y hy=>by rw[Qkz];exact hb y (by simp[hy])) i (by rw[Qkz];exact hi)
  rw[List.foldl_cons,ih]
  congr 1
  by_cases e:(i:Int)=x
  ·subst e
   have h1:(bump l (i:Int)).getD i 0=l.getD i 0+1:=by
    unfold bump
    rw[Int.toNat_natCast,List.getD_eq_getElem?_getD,List.getElem?_set_self hi]
    rfl
   rw[h1,if_neg hx,if_pos (by simp)]
   omega
  ·have h1:(bump l x).getD i 0=l.getD i 0:=by
    unfold bump
    rw[List.getD_eq_getElem?_getD,List.getElem?_set_ne (by omega),←List.getD_eq_getElem?_getD]
   rw[h1]
   have:((i:Int)∈x::is)↔((i:Int)∈is):=by simp[e]
   simp only[this]
theorem Zcv:∀(o:List Int) (i:Nat) (x y:Int),o[i]? = some x→(o.set i y).sum=o.sum+(y-x)
 |[],_,_,_,h=>by simp at h
 |a::o,0,x,y,h=>by simp at h;subst h;simp only[List.set_cons_zero,List.sum_cons];omega
 |a::o,i+1,x,y,h=>by
  have:=Zcv o i x y (by simpa using h)
  simp only[List.set_cons_succ,List.sum_cons,this];omega
theorem Q2y:∀(is l:List Int),(∀x∈is,0≤x∧x<l.length)→(is.foldl bump l).sum=l.sum+is.length
 |[],l,_=>by simp
 |x::is,l,h=>by
  have hx:=h x (by simp)
  have hg:l[x.toNat]? = some (l.getD x.toNat 0):=by rw[List.getD_eq_getElem?_getD,List.getElem?_eq_getElem (by omega)];rfl
  rw[List.foldl_cons,Q2y is (bump l x) (fun y hy=>by rw[Qkz];exact h y (by simp[hy])),bump,Zcv l _ _ _ hg]
  simp only[List.length_cons]
  omega
def Qo9 (M:Int) (ws:List Int):List Int:=ws.map fun w=>M*w/ws.sum
def Qo7 (M:Int) (ws:List Int):Int:=M-(Qo9 M ws).sum
def Q80 (key:Int→Int) (ls:List Int) (n:Nat):Nat→List Bool→List Int
 |0,_=>[]
 |k+1,mk=>Qm6 key ls mk n::Q80 key ls n k (mark mk (Qm6 key ls mk n))
def Qil (M:Int) (ws:List Int):List Int:=(Q80 (rkey M ws.sum) ws ws.length (Qo7 M ws).toNat (List.replicate ws.length false)).foldl bump (Qo9 M ws)
theorem Q6s {key:Int→Int}{ls L:List Int}(hp:L.Perm (ixs ls.length)) (hL:L.Pairwise (Qlv key ls)):∀(k j:Nat),j+k≤L.length→Q80 key ls ls.length k ((L.take j).foldl mark (List.replicate ls.length false))=(L.drop j).take k
 |0,j,_=>by simp[Q80]
 |k+1,j,h=>by
  have hr:∀x∈L,0≤x∧x<ls.length:=fun x hx=>Qrh.1 (hp.mem_iff.1 hx)
  have hb:Qm6 key ls ((L.take j).foldl mark (List.replicate ls.length false)) ls.length=L[j]'(by omega):=Qye hL (fun i hi=>hp.mem_iff.2 (Qrh.2 ⟨by omega,by omega⟩)) hr (fun i hi=>Qx6 hr i hi) (by omega)
  have ht:mark ((L.take j).foldl mark (List.replicate ls.length false)) (L[j]'(by omega))=(L.take (j+1)).foldl mark (List.replicate ls.length false):=by
   rw[List.take_add_one,List.getElem?_eq_getElem (by omega),List.foldl_append]
   rfl
  rw[Q80,hb,ht,Q6s hp hL k (j+1) (by omega),List.drop_eq_getElem_cons (show j<L.length by omega),List.take_succ_cons]
structure WtsV (ws:List Int):Prop where
 l1:1≤ws.length
 l2:ws.length≤20
 w:∀x∈ws,0≤x∧x≤1000
 some:∃x∈ws,x>0
theorem Zl9 {ws:List Int}(h:wtsB ws=true):WtsV ws:=by
 unfold wtsB at h
 simp only[Bool.and_eq_true] at h
 obtain⟨h1,h2,h3⟩:=h
 have:=Qgb.1 h1
 refine⟨by omega,by omega,fun x hx=>Qgb.1 (List.all_eq_true.1 h2 x hx),?_⟩
 obtain⟨x,hx,h4⟩:=List.any_eq_true.1 h3
 exact⟨x,hx,by simpa using h4⟩
theorem Q8k (ws:List Int) (h:∀x∈ws,0≤x∧x≤1000):0≤ws.sum∧ws.sum≤1000*ws.length:=by
 induction ws with
 |nil=>simp
 |cons a l ih=>
  have h1:=ih fun x hx=>h x (List.mem_cons_of_mem _ hx)
  have h2:=h a List.mem_cons_self
  simp only[List.sum_cons,List.length_cons]
  omega
theorem WtsV.sum {ws:List Int}(h:WtsV ws):0<ws.sum∧ws.sum≤20000:=by
 have h1:=Q8k ws h.w
 have h2:=(Q32 fun x hx=>(h.w x hx).1).2.2 h.some
 have:=h.l2
 omega
theorem WtsV.ok {ws:List Int}(h:WtsV ws) {M:Int}(h0:0≤M) (h1:M≤1000000):WOk ws M ws.sum:=⟨h.w,h0,h1,h.sum.1,h.sum.2⟩
theorem Qtr:∀(ws:List Int),(∀x∈ws,0≤x)→∀x∈ws,x≤ws.sum
 |a::l,h,x,hx=>by
  have h1:=(Q32 fun y hy=>h y (List.mem_cons_of_mem a hy)).1
  have h2:=h a List.mem_cons_self
  rw[List.sum_cons]
  rcases List.mem_cons.1 hx with rfl |hx
  ·omega
  ·have:=Qtr l (fun y hy=>h y (List.mem_cons_of_mem a hy)) x hx
   omega
theorem Q7n {M W:Int}(hM:0≤M) (hW:0<W):∀(l:List Int),(∀x∈l,0≤x)→W*(l.map fun w=>M*w/W).sum≤M*l.sum∧M*l.sum≤W*(l.map fun w=>M*w/W).sum+(W-1)*l.length∧0≤(l.map fun w=>M*w/W).sum
 |[],_=>by simp
 |x::l,h=>by
  obtain⟨h1,h2,h3⟩:=Q7n hM hW l fun y hy=>h y (List.mem_cons_of_mem _ hy)
  have b:=h x (by simp)
  have p0:=Int.mul_nonneg hM b
  have q0:=Int.ediv_nonneg p0 (show 0≤W by omega)
  have q1:=Int.emod_add_mul_ediv (M*x) W
  have q2:=Int.emod_nonneg (M*x) (show W≠0 by omega)
  have q3:=Int.emod_lt_of_pos (M*x) hW
  simp only[List.map_cons,List.sum_cons,List.length_cons,Int.mul_add,Int.natCast_add,Int.natCast_one,Int.mul_one]
  omega
theorem Qzs {M:Int}{ws:List Int}(h:WtsV ws) (h0:0≤M):0≤Qo7 M ws∧Qo7 M ws<ws.length∧0≤(Qo9 M ws).sum:=by
 obtain⟨w0,w1⟩:=h.sum
 obtain⟨b1,b2,b3⟩:=Q7n h0 w0 ws fun x hx=>(h.w x hx).1
 have hl:=h.l1
 generalize hS:(ws.map fun w=>M*w/ws.sum).sum=S at b1 b2 b3
 have hB:(Qo9 M ws).sum=S:=hS
 unfold Qo7
 rw[hB]
 rw[Int.mul_comm M] at b1 b2
 have c1:S≤M:=Int.le_of_mul_le_mul_left b1 w0
 have c2:M<S+ws.length:=by
  apply Decidable.byContradiction
  intro hc
  have:ws.sum*(S+ws.length)≤ws.sum*M:=Int.mul_le_mul_of_nonneg_left (by omega) (by omega)
  rw[Int.mul_add] at this
  rw[Int.sub_mul] at b2
  omega
 omega
theorem Qok {M:Int}{ws L:List Int}(h:WtsV ws) (h0:0≤M) (hp:L.Perm (ixs ws.length)) (hL:L.Pairwise (Qlv (rkey M ws.sum) ws)) :
  Q80 (rkey M ws.sum) ws ws.length (Qo7 M ws).toNat (List.replicate ws.length false)=L.take (Qo7 M ws).toNat:=by
 have hb:=Qzs h h0
 have hlen:=hp.length_eq
 rw[Qi5] at hlen
 have:=Q6s hp hL (Qo7 M ws).toNat 0 (by omega)
 simpa using this
theorem Qvy {M:Int}{ws:List Int}(h:WtsV ws) (h0:0≤M) (h1:M≤1000000):∃L:List Int,L.Perm (ixs ws.length)∧L.Pairwise (Qlv (rkey M ws.sum) ws):=by
 obtain⟨Q,_,q2,q3⟩:=Q1x (N:=1000) (h.ok h0 h1) h.l2 h.l1 (Nat.le_refl _)
 exact⟨Q,q2,q3⟩
theorem Qkh (M:Int) (ws:List Int):(Qo9 M ws).length=ws.length:=by simp[Qo9]
theorem Qhm (M:Int) (ws:List Int):(Qil M ws).length=ws.length:=by rw[Qil,Q2z,Qkh]
theorem Qwd {M:Int}{ws:List Int}(h:WtsV ws) (h0:0≤M) (h1:M≤1000000):(Qil M ws).sum=M:=by
 obtain⟨L,hp,hL⟩:=Qvy h h0 h1
 have hb:=Qzs h h0
 have hlen:=hp.length_eq
 rw[Qi5] at hlen
 rw[Qil,Qok h h0 hp hL,Q2y _ _ (fun x hx=>by rw[Qkh];exact Qrh.1 (hp.mem_iff.1 (List.mem_of_mem_take hx))),List.length_take]
 unfold Qo7 at hb ⊢
 omega
theorem Qsx {M:Int}{ws:List Int}(h:WtsV ws) (h0:0≤M):∀x∈Qo9 M ws,0≤x∧x≤M:=by
 intro x hx
 obtain⟨w,hw,rfl⟩:=List.mem_map.1 hx
 obtain⟨w0,w1⟩:=h.sum
 have:=h.w w hw
 have hle:=Qtr ws (fun y hy=>(h.w y hy).1) w hw
 refine⟨Int.ediv_nonneg (Int.mul_nonneg h0 this.1) (by omega),Int.ediv_le_of_le_mul w0 ?_⟩
 exact Int.mul_le_mul_of_nonneg_left hle h0
theorem Qts {M:Int}{ws:List Int}(h:WtsV ws) (h0:0≤M) (h1:M≤1000000):∀x∈Qil M ws,0≤x∧x≤M:=by
 have hs:=Qwd h h0 h1
 obtain⟨L,hp,hL⟩:=Qvy h h0 h1
 have hnd:L.Nodup:=hp.nodup_iff.2 (Zd2 _)
 have hn:∀x∈Qil M ws,0≤x:=fun x hx=>by
  obtain⟨i,hi⟩:=List.mem_iff_getElem?.1 hx
  have hil:i<ws.length:=by have:=(List.getElem?_eq_some_iff.1 hi).1;rwa [Qhm] at this
  rw[Qil,Qok h h0 hp hL,Q20 _ _ (hnd.sublist (List.take_sublist _ _)) (fun x hx=>by rw[Qkh];exact Qrh.1 (hp.mem_iff.1 (List.mem_of_mem_take hx))) i (by rw[Qkh];exact hil)] at hi
  have hbx:=Qsx h h0 ((Qo9 M ws)[i]'(by rw[Qkh];exact hil)) (List.getElem_mem _)
  have hg:(Qo9 M ws).getD i 0=(Qo9 M ws)[i]'(by rw[Qkh];exact hil):=by rw[List.getD_eq_getElem?_getD,List.getElem?_eq_getElem (by rw[Qkh];exact hil)];rfl
  rw[hg] at hi
  have:=Option.some.inj hi
  split at this<;>omega
 intro x hx
 exact⟨hn x hx,by rw[←hs];exact Qtr _ hn x hx⟩
section
variable {N : Nat} {M : Int} {ws : List Int} (h : WtsV ws) (h0 : 0 ≤ M) (h1 : M ≤ 1000000) (hN : 1001 ≤ N)
include h in
theorem Q8c (k:Int→Option (List Int)):∀(n i:Nat) (s:Int),(ws.drop i).length<n→0≤s→s≤1000*i→Qel N ws k n i s=k (s+(ws.drop i).sum):=by
 intro n
 induction n with
 |zero=>intro i _ h;cases h
 |succ n ih=>
  intro i s hn s0 s1
  rw[Qel]
  cases hd:ws.drop i with
  |nil=>
   have:=Qbw hd
   simp[show ¬((i:Int)<ws.length) from by omega]
  |cons a l=>
   obtain⟨hg,hd',hlt⟩:=Qbh hd
   have ha:=h.w a (List.mem_of_getElem? hg)
   have:=h.l2
   simp only[dlI hlt,cond_true,Qb0 hg,Option.bind_some,List.sum_cons]
   rw[Qbp (x:=(i:Int)+1) (by omega) (by omega),Qbp (x:=s+a) (by omega) (by omega),show(i:Int)+1=((i+1:Nat):Int) by omega,ih (i+1) (s+a) (by rw[hd'];rw[hd] at hn;simp at hn;omega) (by omega) (by omega),hd',Int.add_assoc]
include h h0 h1 in
theorem Ze8 (k:Int×List Int→Option (List Int)):∀(n i:Nat) (r:Int) (o:List Int),(ws.drop i).length<n→i≤ws.length→o.length=ws.length-i→-1000000*(i:Int)≤r→r≤1000000 →
  Qem N M ws ws.sum k n r i (((ws.take i).map fun w=>M*w/ws.sum)++o)=k (r-((ws.drop i).map fun w=>M*w/ws.sum).sum,Qo9 M ws):=by
 intro n
 induction n with
 |zero=>intro i _ _ h;cases h
 |succ n ih=>
  intro i r o hn hi ho r0 r1
  rw[Qem]
  cases hd:ws.drop i with
  |nil=>
   have:=Qbw hd
   have e:o=[]:=List.length_eq_zero_iff.1 (by omega)
   simp[show ¬((i:Int)<ws.length) from by omega,e,List.take_of_length_le this,Qo9]
  |cons a l=>
   obtain⟨hg,hd',hlt⟩:=Qbh hd
   have ha:=h.w a (List.mem_of_getElem? hg)
   have hl2:=h.l2
   obtain⟨p0,p1⟩:=h.sum
   obtain⟨x,o',rfl⟩:∃x o',o=x::o':=by
    cases o with
    |nil=>simp at ho;omega
    |cons x o'=>exact⟨x,o',rfl⟩
   have hb:=Qsx h h0 (M*a/ws.sum) (List.mem_map.2 ⟨a,List.mem_of_getElem? hg,rfl⟩)
   have hp:=bdp h0 h1 ha.1 ha.2 (by omega)
   have hlt':((ws.take i).map fun w=>M*w/ws.sum).length=i:=by simp;omega
   have e2:∀y,(((ws.take i).map fun w=>M*w/ws.sum)++y::o')[i]? = some y:=fun y=>by rw[List.getElem?_append_right (by omega),hlt'];simp
   have e3:(((ws.take i).map fun w=>M*w/ws.sum)++x::o').set i (M*a/ws.sum)=((ws.take i).map fun w=>M*w/ws.sum)++(M*a/ws.sum)::o':=by
    rw[List.set_append_right _ _ (by omega),hlt',Nat.sub_self,List.set_cons_zero]
   have e5:((ws.take i).map fun w=>M*w/ws.sum)++(M*a/ws.sum)::o'=((ws.take (i+1)).map fun w=>M*w/ws.sum)++o':=by
    rw[List.take_add_one,hg];simp
   have e4:((i:Int):Int).toNat=i:=by omega
   have c1:(decide ((0:Int)≤(i:Int))&&decide (i<(ws.length:Int).toNat))=true:=by simp;omega
   have ev:w64 ((w64 (M*a)).tdiv ws.sum)=M*a/ws.sum:=by
    rw[Qbp (x:=M*a) (by omega) (by omega),Int.tdiv_eq_ediv_of_nonneg hp.1,Qbp (by omega) (by omega)]
   simp only[dlI hlt,cond_true,Qb0 hg,Option.bind_some,chk,show(ws.sum != 0)=true from by rw[bne_iff_ne];omega,e4,c1,e2,ev,e3]
   rw[Qbp (x:=(i:Int)+1) (by omega) (by omega),Qbp (x:=r-M*a/ws.sum) (by omega) (by omega),show(i:Int)+1=((i+1:Nat):Int) by omega,e5,ih (i+1) _ o' (by rw[hd'];rw[hd] at hn;simp at hn;omega) (by omega) (by simp at ho;omega) (by omega) (by omega),hd',List.map_cons,List.sum_cons]
   congr 2
   omega
theorem Ze6 (k:List Int→Option (List Int)) (x13:List Int) (y6:Int) (is:List Int) (his:x13.take (y6.toNat-0)=is) (hlen:is.length≤20) (hr:∀x∈is,0≤x∧x<ws.length):∀(n i:Nat) (o:List Int),(is.drop i).length<n→o.length=ws.length→(∀x∈o,0≤x∧x≤1000000+i) →
  Qen N ws y6 k x13 n i o=k ((is.drop i).foldl bump o):=by
 intro n
 induction n with
 |zero=>intro i _ h;cases h
 |succ n ih=>
  intro i o hn ho hob
  rw[Qen,his]
  cases hd:is.drop i with
  |nil=>
   have:=Qbw hd
   simp[show ¬((i:Int)<is.length) from by omega]
  |cons b t=>
   obtain⟨hg,hd',hlt⟩:=Qbh hd
   obtain⟨b0,b1⟩:=hr b (List.mem_of_getElem? hg)
   have hx:o[b.toNat]? = some (o.getD b.toNat 0):=by rw[List.getD_eq_getElem?_getD,List.getElem?_eq_getElem (by omega)];rfl
   have hxb:=hob _ (List.mem_of_getElem? hx)
   have c1:(decide ((0:Int)≤b)&&decide (b.toNat<(ws.length:Int).toNat))=true:=by simp;omega
   simp only[dlI hlt,cond_true,Qb0 hg,Option.bind_some,chk,c1,hx]
   rw[Qbp (x:=(i:Int)+1) (by omega) (by omega),Qbp (x:=o.getD b.toNat 0+1) (by omega) (by omega),show(i:Int)+1=((i+1:Nat):Int) by omega]
   have:=ih (i+1) (bump o b) (by rw[hd'];rw[hd] at hn;simp at hn;omega) (by rw[Qkz];exact ho) (fun z hz=>by
    rcases List.mem_or_eq_of_mem_set hz with hz |rfl
    ·have:=hob z hz;omega
    ·omega)
   rw[hd'] at this
   exact this
include h h0 h1 hN in
theorem Zdt:Qjw N M ws=some (Qil M ws):=by
 have hl1:=h.l1
 have hl2:=h.l2
 unfold Qjw
 simp only[Qbi]
 refine(Q8c h _ N 0 0 (by simp;omega) (by omega) (by omega)).trans ?_
 rw[List.drop_zero,Int.zero_add]
 simp only[chk]
 rw[show(decide ((0:Int)≤(ws.length:Int))&&decide (8*(ws.length:Int)≤281474976710656)&&decide ((ws.length:Int)≤9223372036854775807))=true from by simp;omega,cond_true]
 have eo:=fun k=>Ze8 (N:=N) h h0 h1 k N 0 M (List.replicate (ws.length:Int).toNat 0) (by simp;omega) (by omega) (by simp) (by omega) h1
 simp only[List.take_zero,List.map_nil,List.nil_append,List.drop_zero] at eo
 refine(eo _).trans ?_
 dsimp only
 obtain⟨Q,q1,q2,q3⟩:=Q1x (N:=N) (h.ok h0 h1) hl2 hl1 (by omega)
 have hlen:=q2.length_eq
 rw[Qi5] at hlen
 have hb:=Qzs h h0
 have hL:M-(ws.map fun w=>M*w/ws.sum).sum=Qo7 M ws:=rfl
 rw[q1,Option.bind_some,hL,show(decide ((0:Nat)≤0)&&decide (0≤Qo7 M ws)&&decide (Qo7 M ws≤(Q.length:Int)))=true from by simp;omega,cond_true]
 have hr:∀x∈Q.take ((Qo7 M ws).toNat-0),0≤x∧x<ws.length:=fun x hx=>Qrh.1 (q2.mem_iff.1 (List.mem_of_mem_take hx))
 refine(Ze6 _ Q (Qo7 M ws) _ rfl (by rw[List.length_take];omega) hr N 0 (Qo9 M ws) (by rw[List.drop_zero,List.length_take];omega) (Qkh _ _) (fun x hx=>by have:=Qsx h h0 x hx;omega)).trans ?_
 have hm:(Q.take ((Qo7 M ws).toNat-0)).foldl bump (Qo9 M ws)=Qil M ws:=by
  rw[Qil,Qok h h0 q2 q3,Nat.sub_zero]
 rw[List.drop_zero,hm,Qhm,show decide ((ws.length:Int).toNat≤ws.length)=true from by simp,cond_true,List.take_of_length_le (by rw[Qhm];simp)]
end
end
section
open Go.RowKit
def totS (l:List Qaa):Qaa:=⟨(l.map fun s=>s.Mass).sum,(l.map fun s=>s.Heat).sum,(l.map fun s=>s.Silica).sum,(l.map fun s=>s.Gas).sum⟩
def totW (l:List Qaa):Qaa:=⟨w64 (totS l).Mass,w64 (totS l).Heat,w64 (totS l).Silica,w64 (totS l).Gas⟩
theorem Zcm (N:Nat) (l:List Qaa) (k:Int×Int×Int×Int→Option Qaa) (hl:l.length≤1000000):∀(n i:Nat) (a b c d:Int),(l.drop i).length<n →
  Qfp N l k n i (w64 a) (w64 b) (w64 c) (w64 d)=k (w64 (a+(totS (l.drop i)).Mass),w64 (b+(totS (l.drop i)).Heat),w64 (c+(totS (l.drop i)).Silica),w64 (d+(totS (l.drop i)).Gas)):=by
 intro n
 induction n with
 |zero=>intro i _ _ _ _ h;cases h
 |succ n ih=>
  intro i a b c d h
  rw[Qfp]
  cases hd:l.drop i with
  |nil=>
   have:=Qbw hd
   simp[show ¬((i:Int)<l.length) from by omega,totS]
  |cons x q=>
   obtain⟨hg,hd',hlt⟩:=Qbh hd
   simp only[dlI hlt,cond_true,Qb0 hg,Option.bind_some,Qpe]
   rw[w64S (i:=i) (by omega),ih (i+1) _ _ _ _ (dlt hd hd' h),hd']
   simp only[totS,List.map_cons,List.sum_cons,Int.add_assoc]
theorem Qy3:w64 0=0:=by decide
theorem Q30 {N:Nat}{l:List Qaa}(hl:l.length≤1000) (hN:1001≤N):Qgo N l=some (totW l):=by
 unfold Qgo
 simp only[Qbi]
 have:=Zcm N l (fun x=>match x with |(y1,y2,y3,y4)=>some (⟨y1,y2,y3,y4⟩:Qaa)) (by omega) N 0 0 0 0 0 (by simp;omega)
 rw[Qy3,List.drop_zero] at this
 refine this.trans ?_
 simp[totW]
theorem Zco (N:Nat) (l:List Qaa) (k:Int×Int×Int×Int→Option Qaa) (hl:l.length≤1000000):∀(n i:Nat) (a b c d:Int),(l.drop i).length<n →
  Qf2 N l k n i (w64 a) (w64 b) (w64 c) (w64 d)=k (w64 (a+(totS (l.drop i)).Mass),w64 (b+(totS (l.drop i)).Heat),w64 (c+(totS (l.drop i)).Silica),w64 (d+(totS (l.drop i)).Gas)):=by
 intro n
 induction n with
 |zero=>intro i _ _ _ _ h;cases h
 |succ n ih=>
  intro i a b c d h
  rw[Qf2]
  cases hd:l.drop i with
  |nil=>
   have:=Qbw hd
   simp[show ¬((i:Int)<l.length) from by omega,totS]
  |cons x q=>
   obtain⟨hg,hd',hlt⟩:=Qbh hd
   simp only[dlI hlt,cond_true,Qb0 hg,Qk2,Qcz,Option.bind_some,Qpe]
   rw[w64S (i:=i) (by omega),ih (i+1) _ _ _ _ (dlt hd hd' h),hd']
   simp only[totS,List.map_cons,List.sum_cons,Int.add_assoc]
theorem Zmr {N:Nat}{l:List Qaa}(hl:l.length≤1000) (hN:1001≤N):Ql9 N l=some (totW l):=by
 unfold Ql9
 simp only[Qbi]
 have:=Zco N l (fun x=>match x with |(y1,y2,y3,y4)=>some (⟨y1,y2,y3,y4⟩:Qaa)) (by omega) N 0 0 0 0 0 (by simp;omega)
 rw[Qy3,List.drop_zero] at this
 refine this.trans ?_
 simp[totW]
theorem Qnx (s:Qaa) (l:List Qaa):totS (s::l)=⟨s.Mass+(totS l).Mass,s.Heat+(totS l).Heat,s.Silica+(totS l).Silica,s.Gas+(totS l).Gas⟩:=by simp[totS]
theorem Qoe (s:Qaa):totS [s]=s:=by simp[totS]
theorem Q3z (l m:List Qaa):totS (l++m)=⟨(totS l).Mass+(totS m).Mass,(totS l).Heat+(totS m).Heat,(totS l).Silica+(totS m).Silica,(totS l).Gas+(totS m).Gas⟩:=by simp[totS]
structure TotV (t:Qaa) (n:Nat):Prop where
 m0:0≤t.Mass
 m1:t.Mass≤1000000*n
 h0:0≤t.Heat
 h1:t.Heat≤4000*t.Mass
 s0:0≤t.Silica
 s1:t.Silica≤10000*t.Mass
 g0:0≤t.Gas
 g1:t.Gas≤1000000000*n
theorem Qpf:∀{l:List Qaa},(∀s∈l,StrV s)→TotV (totS l) l.length
 |[],_=>⟨by decide,by decide,by decide,by decide,by decide,by decide,by decide,by decide⟩
 |s::l,h=>by
  obtain⟨a1,a2,a3,a4,a5,a6,a7,a8⟩:=Qpf fun x hx=>h x (List.mem_cons_of_mem s hx)
  obtain⟨b1,b2,b3,b4,b5,b6,b7,b8⟩:=h s List.mem_cons_self
  rw[Qnx]
  refine⟨?_,?_,?_,?_,?_,?_,?_,?_⟩<;>simp only[List.length_cons]<;>omega
theorem Qq1 {l:List Qaa}(h:∀s∈l,StrV s) (hl:l.length≤1000):totW l=totS l:=by
 obtain⟨a1,a2,a3,a4,a5,a6,a7,a8⟩:=Qpf h
 have:(l.length:Int)≤1000:=by omega
 unfold totW
 rw[Qbp (x:=(totS l).Mass) (by omega) (by omega),Qbp (x:=(totS l).Heat) (by omega) (by omega),Qbp (x:=(totS l).Silica) (by omega) (by omega),Qbp (x:=(totS l).Gas) (by omega) (by omega)]
theorem Zgw {l:List Qaa}(h:∀s∈l,StrV s) (hm:(totS l).Mass≤1000000) (hg:(totS l).Gas≤1000000000):StrV (totS l):=by
 obtain⟨a1,a2,a3,a4,a5,a6,a7,a8⟩:=Qpf h
 exact⟨a1,hm,a3,a4,a5,a6,a7,hg⟩
def mx (s:Qaa):Int:=if s.Mass>1 then s.Mass else 1
def Qto (s:Qaa) (m:Int):Qaa:=⟨m,s.Heat*m/mx s,s.Silica*m/mx s,s.Gas*m/mx s⟩
def Qho (s:Qaa) (ws:List Int):List Qaa:=(Qil s.Mass ws).map (Qto s)
def Qkc (s:Qaa) (ws:List Int):Qh2:=⟨s.Heat-(totS (Qho s ws)).Heat,s.Silica-(totS (Qho s ws)).Silica,s.Gas-(totS (Qho s ws)).Gas⟩
theorem Q18 (s:Qaa):0<mx s:=by unfold mx;split<;>omega
theorem Zm9 {s:Qaa}(h:0≤s.Mass):s.Mass≤mx s:=by unfold mx;split<;>omega
theorem Zc9 {n m c:Int}{s:Qaa}(hM:0≤s.Mass) (hm:0≤m) (hn:n≤c*s.Mass) (hc:0≤c):n*m/mx s≤c*m:=by
 have h1:n*m≤c*s.Mass*m:=Int.mul_le_mul_of_nonneg_right hn hm
 have h2:c*s.Mass*m≤c*m*mx s:=by
  rw[Int.mul_assoc,Int.mul_assoc,Int.mul_comm s.Mass m]
  exact Int.mul_le_mul_of_nonneg_left (Int.mul_le_mul_of_nonneg_left (Zm9 hM) hm) hc
 exact Int.ediv_le_of_le_mul (Q18 s) (Int.le_trans h1 h2)
theorem Qv6 {n m:Int}{s:Qaa}(hM:0≤s.Mass) (hm:0≤m) (hmM:m≤s.Mass) (hn:0≤n):0≤n*m/mx s∧n*m/mx s≤n:=by
 have hp:=Q18 s
 refine⟨Int.ediv_nonneg (Int.mul_nonneg hn hm) (by omega),Int.ediv_le_of_le_mul hp ?_⟩
 have:=Zm9 hM
 exact Int.mul_le_mul_of_nonneg_left (by omega) hn
theorem Zhb {s:Qaa}(hs:StrV s) {m:Int}(h0:0≤m) (h1:m≤s.Mass):StrV (Qto s m):=by
 obtain⟨a1,a2,a3,a4,a5,a6,a7,a8⟩:=hs
 have b1:=Qv6 a1 h0 h1 a3
 have b2:=Zc9 a1 h0 a4 (by omega)
 have b3:=Qv6 a1 h0 h1 a5
 have b4:=Zc9 a1 h0 a6 (by omega)
 have b5:=Qv6 a1 h0 h1 a7
 exact⟨h0,by dsimp only[Qto];omega,b1.1,b2,b3.1,b4,b5.1,by dsimp only[Qto];omega⟩
theorem Q6t {n:Int}{s:Qaa}(hn:0≤n):∀(l:List Int),(∀m∈l,0≤m)→mx s*(l.map fun m=>n*m/mx s).sum≤n*l.sum
 |[],_=>by simp
 |m::l,h=>by
  have h1:=Q6t (n:=n) (s:=s) hn l fun x hx=>h x (List.mem_cons_of_mem _ hx)
  have hp:=Q18 s
  have h2:=Int.mul_ediv_self_le (x:=n*m) (k:=mx s) (by omega)
  simp only[List.map_cons,List.sum_cons,Int.mul_add]
  omega
theorem Qzk {n:Int}{s:Qaa}(hn:0≤n) (hM:0≤s.Mass) {l:List Int}(h:∀m∈l,0≤m) (hl:l.sum=s.Mass):(l.map fun m=>n*m/mx s).sum≤n:=by
 have h1:=Q6t (s:=s) hn l h
 have hp:=Q18 s
 rw[hl] at h1
 have h2:n*s.Mass≤n*mx s:=Int.mul_le_mul_of_nonneg_left (Zm9 hM) hn
 rw[Int.mul_comm n (mx s)] at h2
 exact Int.le_of_mul_le_mul_left (Int.le_trans h1 h2) hp
theorem Q8h (s:Qaa) (l:List Int):totS (l.map (Qto s))=⟨l.sum,(l.map fun m=>s.Heat*m/mx s).sum,(l.map fun m=>s.Silica*m/mx s).sum,(l.map fun m=>s.Gas*m/mx s).sum⟩:=by
 simp[totS,Qto,Function.comp_def]
structure Ztf (s:Qaa) (o:List Qaa) (l:Qh2):Prop where
 v:∀x∈o,StrV x
 m:(totS o).Mass=s.Mass
 h:(totS o).Heat+l.Heat=s.Heat
 q:(totS o).Silica+l.Silica=s.Silica
 g:(totS o).Gas+l.Gas=s.Gas
 h0:0≤l.Heat
 q0:0≤l.Silica
 g0:0≤l.Gas
theorem Qjo {s:Qaa}(hs:StrV s) {ws:List Int}(h:WtsV ws):Ztf s (Qho s ws) (Qkc s ws):=by
 have hs':=hs
 obtain⟨a1,a2,a3,a4,a5,a6,a7,a8⟩:=hs'
 have hsum:=Qwd h a1 a2
 have hbd:=Qts h a1 a2
 have hnn:∀m∈Qil s.Mass ws,0≤m:=fun m hm=>(hbd m hm).1
 have e:totS (Qho s ws)=_:=Q8h s (Qil s.Mass ws)
 have t1:=Qzk (n:=s.Heat) (s:=s) a3 a1 hnn hsum
 have t2:=Qzk (n:=s.Silica) (s:=s) a5 a1 hnn hsum
 have t3:=Qzk (n:=s.Gas) (s:=s) a7 a1 hnn hsum
 refine⟨fun x hx=>?_,?_,?_,?_,?_,?_,?_,?_⟩
 ·obtain⟨m,hm,rfl⟩:=List.mem_map.1 hx
  exact Zhb hs (hbd m hm).1 (hbd m hm).2
 ·rw[e];exact hsum
 all_goals (simp only[Qkc,e];omega)
section
variable {N : Nat} {s : Qaa} {ws : List Int} (hs : StrV s) (h : WtsV ws) (hN : 1001 ≤ N)
include hs in
theorem Zdi {n m:Int}(hn:0≤n) (hn':n≤10000000000) (h0:0≤m) (h1:m≤s.Mass) (a b c:Int):Qf3 N n m s.Mass a b c=some (n*m/mx s):=by
 have hM:=hs.m1
 have hM0:=hs.m0
 have hp:=bdp hn hn' h0 (show m≤1000000 by omega) (by omega)
 have hb:=Qv6 hM0 h0 h1 hn
 have hx:=Q18 s
 unfold Qf3
 show chk (mx s != 0) ((some (w64 ((w64 (n*m)).tdiv (mx s)))).bind fun x2=>some x2)=_
 rw[show(mx s != 0)=true by rw[bne_iff_ne];omega,Qbp (x:=n*m) (by omega) (by omega),Int.tdiv_eq_ediv_of_nonneg hp.1,Qbp (by omega) (by omega)]
 rfl
include hs in
theorem Q81 (k:List Qaa→Option (List Qaa×Qh2×Int)) (l:List Int) (hl:l.length≤20) (hb:∀m∈l,0≤m∧m≤s.Mass):∀(n i:Nat) (acc:List Qaa),(l.drop i).length<n→acc.length=i →
  Qez N s k l n acc i=k (acc++(l.drop i).map (Qto s)):=by
 intro n
 induction n with
 |zero=>intro i _ h;cases h
 |succ n ih=>
  intro i acc h ha
  rw[Qez]
  cases hd:l.drop i with
  |nil=>
   have:=Qbw hd
   simp[show ¬((i:Int)<l.length) from by omega]
  |cons m q=>
   obtain⟨hg,hd',hlt⟩:=Qbh hd
   obtain⟨m0,m1⟩:=hb m (List.mem_of_getElem? hg)
   have a1:=hs.m1
   simp only[dlI hlt,cond_true,Qb0 hg,Option.bind_some,Zdi (N:=N) hs hs.h0 (by have:=hs.h1;omega) m0 m1,Zdi (N:=N) hs hs.s0 (by have:=hs.s1;omega) m0 m1,Zdi (N:=N) hs hs.g0 (by have:=hs.g1;omega) m0 m1,chk]
   have hc:decide ((acc.length+[(⟨m,s.Heat*m/mx s,s.Silica*m/mx s,s.Gas*m/mx s⟩:Qaa)].length)*32≤140737488355328)=true:=by simp;omega
   rw[hc,cond_true,w64S (i:=i) (by omega),
    ih (i+1) _ (dlt hd hd' h) (by simp[ha]),hd',List.append_assoc]
   rfl
include h hN in
theorem Zce:Qh7 N ws=some true∧Qcu N ws=some true:=by
 have hl:=h.l2
 have hc:Qdd N ws=some (ws.any fun x=>!btw x 0 1000):=by
  unfold Qdd Qe2 Qbi
  refine Qjs (F:=Qcg N ws fun _=>some (-1)) (k:=fun _=>some (-1)) (q:=Qg7 N) (fun n y=>rfl) (fun x=>?_) rfl (by omega) (by omega)
  simp only[Qg7,Qk4,Qnw,Option.bind_some]
 constructor
 ·unfold Qh7
  rw[hc,Option.bind_some,Qw7]
  congr 1
  exact List.all_eq_true.2 fun x hx=>Qgb.2 (h.w x hx)
 ·have:Qcu N ws=some (ws.any fun x=>decide (x>0)):=by
   unfold Qcu Qe1 Qbi
   exact Qjs (F:=Qcf N ws fun _=>some (-1)) (k:=fun _=>some (-1)) (q:=Qk3 N) (fun n y=>rfl) (fun x=>rfl) rfl (by omega) (by omega)
  rw[this]
  congr 1
  obtain⟨x,hx,hp⟩:=h.some
  exact List.any_eq_true.2 ⟨x,hx,by simpa using hp⟩
include hs h hN in
theorem Zg7:Qla N s ws=some (Qho s ws,Qkc s ws,0):=by
 have hl:=h.l2
 obtain⟨w1,w2⟩:=Zce h hN
 have hK:=Qjo hs h
 have hlen:(Qho s ws).length=ws.length:=by unfold Qho;rw[List.length_map,Qhm]
 unfold Qla
 simp only[Qbi,Qy4,Qp2.2 hs,Option.bind_some,Bool.not_true,cond_false,w1,w2,show decide ((ws.length:Int)>20)=false from by simp;omega,Zdt h hs.m0 hs.m1 hN]
 refine(Q81 hs _ (Qil s.Mass ws) (by rw[Qhm];exact hl) (Qts h hs.m0 hs.m1) N 0 [] (by rw[List.drop_zero,Qhm];omega) rfl).trans ?_
 rw[List.drop_zero,List.nil_append]
 show(Ql9 N (Qho s ws)).bind _=_
 rw[Zmr (by omega) hN,Option.bind_some,Qq1 hK.v (by omega)]
 obtain⟨_,k1,k2,k3,k4,k5,k6,k7⟩:=hK
 have g1:=hs.h1
 have g2:=hs.s1
 have g3:=hs.g1
 have g4:=hs.m1
 have v:=Qpf (Qjo hs h).v
 have:=v.h0
 have:=v.s0
 have:=v.g0
 unfold Qkc at *
 dsimp only at *
 rw[Qbp (x:=s.Heat-_) (by omega) (by omega),Qbp (x:=s.Silica-_) (by omega) (by omega),Qbp (x:=s.Gas-_) (by omega) (by omega)]
 rfl
end
end
section
open Go.RowKit
def pq (p:Qa6):Int×Int:=(p.Element,p.Outlet)
def Q6q (els:List Qam) (i:Nat) (lv:Int) (u:List (Int×Int)) (p:Qa6):Bool:=
 btw p.Element 0 ((i:Int)-1)&&(match getI els p.Element with |some y=>btw p.Outlet 0 (outl y-1)&&decide (lv≤y.Level) |none=>false)&&!u.contains (pq p)
def Qj7 (els:List Qam) (i:Nat) (lv:Int):List (Int×Int)→List Qa6→Bool
 |_,[]=>true
 |u,p::l=>Q6q els i lv u p&&Qj7 els i lv (u++[pq p]) l
def Qwq (n:Int) (els:List Qam):Nat→List (Int×Int)→List Qam→Bool
 |_,_,[]=>true
 |i,u,x::l=>btw x.Level 0 (n-1)&&Qj7 els i x.Level u x.From&&Qwq n els (i+1) (u++x.From.map pq) l
def netB (n:GNet):Bool:=tabB n.Table&&btw n.Elements.length 1 16&&n.Elements.all Qiw&&Qwq n.Table.length n.Elements 0 [] n.Elements
structure Ql8 (n:GNet):Prop where
 t:n.Table.length≤25
 e:n.Elements.length≤18
 x:∀x∈n.Elements,x.From.length≤25∧x.Weights.length≤25
theorem Qtp {x:Qam}(h:x.Weights.length≤25):0≤outl x∧outl x≤25:=by
 unfold outl
 split
 ·omega
 ·split<;>omega
theorem Zd5 {els:List Qam}{a:Int}{i:Nat}(h:btw a 0 ((i:Int)-1)=true) (hi:i≤els.length):∃y,getI els a=some y∧y∈els:=by
 obtain⟨h1,h2⟩:=Qgb.1 h
 have hlt:a.toNat<els.length:=by omega
 exact⟨els[a.toNat],by unfold getI;rw[if_pos h1,List.getElem?_eq_getElem hlt],List.getElem_mem hlt⟩
section
variable {N : Nat} {n : GNet} (hs : Ql8 n) (hN : 1001 ≤ N)
include hs hN
omit hN in
theorem Q8y {i:Nat}(hi:i<n.Elements.length) {x:Qam}(hx:x.From.length≤25) (k:List (Int×Int)→Option Bool):∀(m j:Nat) (u:List (Int×Int)),(x.From.drop j).length<m →
  Qd0 N n i k x m j u=bif Qj7 n.Elements i x.Level u (x.From.drop j) then k (u++(x.From.drop j).map pq) else some false:=by
 intro m
 induction m with
 |zero=>intro j _ h;cases h
 |succ m ih=>
  intro j u h
  rw[Qd0]
  cases hd:x.From.drop j with
  |nil=>
   have:=Qbw hd
   simp[show ¬((j:Int)<x.From.length) from by omega,Qj7]
  |cons p l=>
   obtain⟨hg,hd',hlt⟩:=Qbh hd
   have e0:=hs.e
   simp only[dlI hlt,cond_true,Qb0 hg,Option.bind_some,Qku,Qj7,Q6q]
   rw[Qbp (x:=(i:Int)-1) (by omega) (by omega)]
   cases hb:btw p.Element 0 ((i:Int)-1) with
   |false=>rfl
   |true=>
    obtain⟨y,hy,hym⟩:=Zd5 hb (Nat.le_of_lt hi)
    obtain⟨o0,o1⟩:=Qtp (hs.x y hym).2
    simp only[Bool.not_true,cond_false,hy,Option.bind_some,Zdc,Bool.true_and]
    rw[Qbp (x:=outl y-1) (by omega) (by omega)]
    cases hc:btw p.Outlet 0 (outl y-1) with
    |false=>rfl
    |true=>
     simp only[Bool.not_true,cond_false,Bool.true_and]
     show(bif u.contains (pq p) then some false else _)=_
     cases hu:u.contains (pq p) with
     |true=>simp
     |false=>
      simp only[cond_false,Bool.not_false,Bool.and_true]
      by_cases hl:x.Level>y.Level
      ·rw[decide_eq_true hl,decide_eq_false (by omega)];rfl
      ·rw[decide_eq_false hl,decide_eq_true (by omega),cond_false,w64S (i:=j) (by omega),
        ih (j+1) _ (dlt hd hd' h),hd']
       have ea:addQ u (p.Element,p.Outlet)=u++[pq p]:=by
        unfold addQ
        rw[show u.contains (p.Element,p.Outlet)=false from hu];rfl
       rw[ea,Bool.true_and,List.map_cons,List.append_assoc]
       rfl
theorem Zew (k:Unit→Option Bool):∀(m i:Nat) (u:List (Int×Int)),(n.Elements.drop i).length<m →
  Qdh N n k m i u=bif Qwq n.Table.length n.Elements i u (n.Elements.drop i) then k () else some false:=by
 intro m
 induction m with
 |zero=>intro i _ h;cases h
 |succ m ih=>
  intro i u h
  rw[Qdh]
  cases hd:n.Elements.drop i with
  |nil=>
   have:=Qbw hd
   simp[show ¬((i:Int)<n.Elements.length) from by omega,Qwq]
  |cons x l=>
   obtain⟨hg,hd',hlt⟩:=Qbh hd
   have e0:=hs.e
   have e1:=hs.t
   have hx:=hs.x x (List.mem_of_getElem? hg)
   simp only[dlI hlt,cond_true,Qbi,Qb0 hg,Option.bind_some,Qku,Qwq]
   rw[Qbp (x:=(n.Table.length:Int)-1) (by omega) (by omega)]
   cases hb:btw x.Level 0 ((n.Table.length:Int)-1) with
   |false=>rfl
   |true=>
    have:=Q8y (N:=N) hs hlt hx.1 (fun y9=>Qdh N n k m (w64 ((i:Int)+1)) y9) N 0 u (by simp;omega)
    rw[List.drop_zero] at this
    simp only[Bool.not_true,cond_false,Bool.true_and]
    refine this.trans ?_
    cases Qj7 n.Elements i x.Level u x.From with
    |false=>rfl
    |true=>
     rw[cond_true,w64S (i:=i) (by omega),ih (i+1) _ (dlt hd hd' h),hd',Bool.true_and]
theorem Zou:Qet N n.Elements=some (n.Elements.all Qiw):=by
 have e0:=hs.e
 have hc:Qb2 N n.Elements=some (n.Elements.any fun x=>!Qiw x):=by
  unfold Qb2 Qce Qbi
  have gen:∀(m j:Nat),(n.Elements.drop j).length<m→(Qba N n.Elements (fun _=>some (-1)) m j).bind (fun x=>some (decide (x≥0)))=some ((n.Elements.drop j).any fun x=>!Qiw x):=by
   intro m
   induction m with
   |zero=>intro j h;cases h
   |succ m ih=>
    intro j h
    rw[Qba]
    cases hd:n.Elements.drop j with
    |nil=>
     have:=Qbw hd
     simp[show ¬((j:Int)<n.Elements.length) from by omega]
    |cons x l=>
     obtain⟨hg,hd',hlt⟩:=Qbh hd
     have hx:=hs.x x (List.mem_of_getElem? hg)
     simp only[dlI hlt,cond_true,Qb0 hg,Option.bind_some,Qfl,Zfo (show x.Weights.length≤1000 by omega) hN,List.any_cons]
     cases Qiw x with
     |false=>simp
     |true=>
      rw[Bool.not_true,cond_false,w64S (i:=j) (by omega),ih (j+1) (dlt hd hd' h),hd',Bool.false_or]
  have:=gen N 0 (by simp;omega)
  rw[List.drop_zero] at this
  exact this
 unfold Qet
 rw[hc,Option.bind_some,Qw7]
theorem Zm8:Qh0 N n=some (netB n):=by
 have e0:=hs.e
 have e1:=hs.t
 unfold Qh0 netB Qix
 simp only[Qbi,Q1i (show n.Table.length≤1000 by omega) hN,Option.bind_some,Qku,Zou hs hN]
 cases tabB n.Table with
 |false=>rfl
 |true=>
  simp only[Bool.not_true,cond_false,Option.bind_some,Bool.true_and,show((0:Int) != 0)=false from rfl]
  cases btw n.Elements.length 1 16 with
  |false=>rfl
  |true=>
   cases n.Elements.all Qiw with
   |false=>rfl
   |true=>
    have:=Zew hs hN (fun _=>some true) N 0 [] (by simp;omega)
    rw[List.drop_zero] at this
    simp only[Bool.not_true,cond_false,Bool.true_and]
    refine this.trans ?_
    cases Qwq n.Table.length n.Elements 0 [] n.Elements<;>rfl
omit hs in
theorem Q7v {l:List Qa6}(hl:l.length≤1000) (p:Qa6):Qjj N l p=some ((l.map pq).contains (pq p)):=by
 unfold Qjj
 simp only[Qbi]
 have gen:∀(m j:Nat),(l.drop j).length<m→Qe6 N l (fun _=>some false) p m j=some (((l.drop j).map pq).contains (pq p)):=by
  intro m
  induction m with
  |zero=>intro j h;cases h
  |succ m ih=>
   intro j h
   rw[Qe6]
   cases hd:l.drop j with
   |nil=>
    have:=Qbw hd
    simp[show ¬((j:Int)<l.length) from by omega]
   |cons x q=>
    obtain⟨hg,hd',hlt⟩:=Qbh hd
    have hx:(([x.Element,x.Outlet]:List Int)==[p.Element,p.Outlet])=(pq p==pq x):=by
     by_cases h1:x.Element=p.Element
     ·by_cases h2:x.Outlet=p.Outlet
      ·rw[h1,h2,beq_self_eq_true];simp[pq,h1,h2]
      ·rw[beq_eq_false_iff_ne.2 (by simp[h2]),beq_eq_false_iff_ne.2 (by simp only[pq,ne_eq,Prod.mk.injEq];omega)]
     ·rw[beq_eq_false_iff_ne.2 (by simp[h1]),beq_eq_false_iff_ne.2 (by simp only[pq,ne_eq,Prod.mk.injEq];omega)]
    simp only[dlI hlt,cond_true,Qb0 hg,Option.bind_some,hx,List.map_cons,List.contains_cons]
    cases (pq p==pq x) with
    |true=>rfl
    |false=>rw[cond_false,w64S (i:=j) (by omega),ih (j+1) (dlt hd hd' h),hd',Bool.false_or]
 have:=gen N 0 (by simp;omega)
 rw[List.drop_zero] at this
 exact this
theorem Q8x {i:Nat}(hi:i<n.Elements.length) {x:Qam}(hx:x.From.length≤25) (k:List Qa6→Option Bool):∀(m j:Nat) (u:List Qa6),(x.From.drop j).length<m→u.length≤25*i+j →
  Qe7 N n i k x m u j=bif Qj7 n.Elements i x.Level (u.map pq) (x.From.drop j) then k (u++x.From.drop j) else some false:=by
 intro m
 induction m with
 |zero=>intro j _ h;cases h
 |succ m ih=>
  intro j u h hu
  rw[Qe7]
  cases hd:x.From.drop j with
  |nil=>
   have:=Qbw hd
   simp[show ¬((j:Int)<x.From.length) from by omega,Qj7]
  |cons p l=>
   obtain⟨hg,hd',hlt⟩:=Qbh hd
   have e0:=hs.e
   simp only[dlI hlt,cond_true,Qb0 hg,Option.bind_some,Q4j,Qj7,Q6q]
   rw[Qbp (x:=(i:Int)-1) (by omega) (by omega)]
   cases hb:btw p.Element 0 ((i:Int)-1) with
   |false=>rfl
   |true=>
    obtain⟨y,hy,hym⟩:=Zd5 hb (Nat.le_of_lt hi)
    obtain⟨o0,o1⟩:=Qtp (hs.x y hym).2
    simp only[Bool.not_true,cond_false,hy,Option.bind_some,Zdb,Bool.true_and]
    rw[Qbp (x:=outl y-1) (by omega) (by omega)]
    cases hc:btw p.Outlet 0 (outl y-1) with
    |false=>rfl
    |true=>
     simp only[Bool.not_true,cond_false,Bool.true_and]
     by_cases hl:x.Level>y.Level
     ·rw[decide_eq_true hl,decide_eq_false (show ¬x.Level≤y.Level by omega)];rfl
     ·rw[decide_eq_false hl,decide_eq_true (show x.Level≤y.Level by omega),cond_false,Q7v hN (by omega),Option.bind_some]
      cases hu':(u.map pq).contains (pq p) with
      |true=>simp
      |false=>
       simp only[cond_false,chk]
       rw[show decide ((u.length+[p].length)*16≤140737488355328)=true by simp;omega,cond_true,w64S (i:=j) (by omega),
        ih (j+1) _ (dlt hd hd' h) (by simp;omega),hd',List.map_append,List.append_assoc]
       rfl
def elsR (t:Int) (els:List Qam):Nat→List (Int×Int)→List Qam→Bool
 |_,_,[]=>true
 |i,u,x::l=>Qiw x&&btw x.Level 0 (t-1)&&Qj7 els i x.Level u x.From&&elsR t els (i+1) (u++x.From.map pq) l
omit hs hN in
theorem Zev (t:Int) (els:List Qam):∀(l:List Qam) (i:Nat) (u:List (Int×Int)),elsR t els i u l=(l.all Qiw&&Qwq t els i u l)
 |[],_,_=>rfl
 |x::l,i,u=>by
  rw[elsR,Zev t els l,Qwq,List.all_cons]
  cases Qiw x<;>cases btw x.Level 0 (t-1)<;>cases Qj7 els i x.Level u x.From<;>cases l.all Qiw<;>rfl
theorem Zeu (k:Unit→Option Bool):∀(m i:Nat) (u:List Qa6),(n.Elements.drop i).length<m→u.length≤25*i →
  Qeb N n k m u i=bif elsR n.Table.length n.Elements i (u.map pq) (n.Elements.drop i) then k () else some false:=by
 intro m
 induction m with
 |zero=>intro i _ h;cases h
 |succ m ih=>
  intro i u h hu
  rw[Qeb]
  cases hd:n.Elements.drop i with
  |nil=>
   have:=Qbw hd
   simp[show ¬((i:Int)<n.Elements.length) from by omega,elsR]
  |cons x l=>
   obtain⟨hg,hd',hlt⟩:=Qbh hd
   have e0:=hs.e
   have e1:=hs.t
   have hx:=hs.x x (List.mem_of_getElem? hg)
   simp only[dlI hlt,cond_true,Qbi,Qb0 hg,Option.bind_some,Zfn (show x.Weights.length≤1000 by omega) hN,Q4j,elsR]
   rw[Qbp (x:=(n.Table.length:Int)-1) (by omega) (by omega)]
   cases Qiw x with
   |false=>rfl
   |true=>
    cases hb:btw x.Level 0 ((n.Table.length:Int)-1) with
    |false=>rfl
    |true=>
     have:=Q8x hs hN hlt hx.1 (fun y9=>Qeb N n k m y9 (w64 ((i:Int)+1))) N 0 u (by simp;omega) (by omega)
     rw[List.drop_zero] at this
     simp only[Bool.not_true,cond_false,Bool.true_and]
     refine this.trans ?_
     cases Qj7 n.Elements i x.Level (u.map pq) x.From with
     |false=>rfl
     |true=>
      rw[cond_true,w64S (i:=i) (by omega),ih (i+1) _ (dlt hd hd' h) (by simp;omega),hd',Bool.true_and,List.map_append]
theorem Zm7:Qll N n=some (netB n):=by
 have e0:=hs.e
 have e1:=hs.t
 unfold Qll netB
 simp only[Qbi,Zc1 (show n.Table.length≤9223372036854775807 by omega) (show n.Table.length<N by omega),Option.bind_some]
 cases tabB n.Table with
 |false=>rfl
 |true=>
  simp only[Bool.not_true,cond_false,Bool.true_and]
  by_cases h1:(n.Elements.length:Int)<1
  ·rw[decide_eq_true h1,show btw n.Elements.length 1 16=false by unfold btw;rw[decide_eq_false (by omega)];rfl];rfl
  ·by_cases h2:(n.Elements.length:Int)>16
   ·rw[decide_eq_false h1,decide_eq_true h2,show btw n.Elements.length 1 16=false by unfold btw;rw[decide_eq_false (show ¬(n.Elements.length:Int)≤16 by omega),Bool.and_false]];rfl
   ·rw[decide_eq_false h1,decide_eq_false h2,Qgb.2 ⟨by omega,by omega⟩]
    have:=Zeu hs hN (fun _=>some true) N 0 [] (by simp;omega) (by simp)
    rw[List.drop_zero] at this
    simp only[cond_false,Bool.true_and]
    refine this.trans ?_
    rw[Zev]
    cases n.Elements.all Qiw<;>cases h:Qwq n.Table.length n.Elements 0 [] n.Elements<;>simp[h]
end
theorem Zho (N:Nat) (n:GNet) (k:Unit→Option Bool) (hl:(n.Elements.length:Int)≤9223372036854775807):∀(m i:Nat),(n.Elements.drop i).length<m →
  Qf7 N n k m i=bif (n.Elements.drop i).all (fun x=>decide (x.From.length≤25)&&decide (x.Weights.length≤25)) then k () else some false:=by
 intro m
 induction m with
 |zero=>intro i h;cases h
 |succ m ih=>
  intro i h
  rw[Qf7]
  cases hd:n.Elements.drop i with
  |nil=>
   have:=Qbw hd
   simp[show ¬((i:Int)<n.Elements.length) from by omega]
  |cons x l=>
   obtain⟨hg,hd',hlt⟩:=Qbh hd
   simp only[dlI hlt,cond_true,Qb0 hg,Option.bind_some,List.all_cons]
   by_cases h1:(x.From.length:Int)>25
   ·rw[decide_eq_true h1,decide_eq_false (show ¬x.From.length≤25 by omega)];rfl
   ·by_cases h2:(x.Weights.length:Int)>25
    ·rw[decide_eq_false h1,decide_eq_true h2,decide_eq_false (show ¬x.Weights.length≤25 by omega)];simp
    ·rw[decide_eq_false h1,decide_eq_false h2,decide_eq_true (show x.From.length≤25 by omega),decide_eq_true (show x.Weights.length≤25 by omega),cond_false,cond_false,w64S (i:=i) (by omega),ih (i+1) (dlt hd hd' h),hd']
     rfl
theorem Zra {N:Nat}{n:GNet}{ws:List Qaa}(hl:(n.Elements.length:Int)≤9223372036854775807) (hN:n.Elements.length<N):(Qmc N n ws=some false)∨(Qmc N n ws=some true∧Ql8 n∧ws.length≤25):=by
 unfold Qmc
 simp only[Qbi]
 have:=Zho N n (fun _=>bif (decide ((n.Elements.length:Int)≤18)) then bif (decide ((n.Table.length:Int)≤25)) then some (decide ((ws.length:Int)≤25)) else some false else some false) hl N 0 (by simpa using hN)
 rw[List.drop_zero,show((0:Nat):Int)=0 from rfl] at this
 rw[this]
 cases ha:n.Elements.all (fun x=>decide (x.From.length≤25)&&decide (x.Weights.length≤25)) with
 |false=>exact .inl rfl
 |true=>
  rw[cond_true]
  by_cases h1:(n.Elements.length:Int)≤18
  ·by_cases h2:(n.Table.length:Int)≤25
   ·by_cases h3:(ws.length:Int)≤25
    ·refine .inr ⟨by rw[decide_eq_true h1,decide_eq_true h2,decide_eq_true h3];rfl,⟨by omega,by omega,fun x hx=>?_⟩,by omega⟩
     have:=List.all_eq_true.1 ha x hx
     simpa using this
    ·exact .inl (by rw[decide_eq_true h1,decide_eq_true h2,decide_eq_false h3];rfl)
   ·exact .inl (by rw[decide_eq_true h1,decide_eq_false h2];rfl)
  ·exact .inl (by rw[decide_eq_false h1];rfl)
theorem Zdo (N:Nat) (x:Qam) (k:List Qam×List Qa6×List Int→Option GNet) (hl:x.From.length≤1000) (a:List Qam) (w:List Int):∀(m j:Nat) (acc:List Qa6),(x.From.drop j).length<m→acc.length=j →
  Qf5 N x k m j a acc w=k (a,acc++x.From.drop j,w):=by
 intro m
 induction m with
 |zero=>intro j _ h;cases h
 |succ m ih=>
  intro j acc h ha
  rw[Qf5]
  cases hd:x.From.drop j with
  |nil=>
   have:=Qbw hd
   simp[show ¬((j:Int)<x.From.length) from by omega]
  |cons p l=>
   obtain⟨hg,hd',hlt⟩:=Qbh hd
   simp only[dlI hlt,cond_true,Qb0 hg,Option.bind_some,chk]
   rw[show decide ((acc.length+[p].length)*16≤140737488355328)=true by simp;omega,cond_true,w64S (i:=j) (by omega),
    ih (j+1) _ (dlt hd hd' h) (by simp[ha]),hd',List.append_assoc]
   rfl
theorem Zhh {N:Nat}{n:GNet}(hs:Ql8 n) (hN:1001≤N) (k:List Qam→Option GNet):∀(m i:Nat) (acc:List Qam),(n.Elements.drop i).length<m→acc.length=i →
  Qf6 N n k m i acc=k (acc++n.Elements.drop i):=by
 intro m
 induction m with
 |zero=>intro i _ h;cases h
 |succ m ih=>
  intro i acc h ha
  rw[Qf6]
  cases hd:n.Elements.drop i with
  |nil=>
   have:=Qbw hd
   simp[show ¬((i:Int)<n.Elements.length) from by omega]
  |cons x l=>
   obtain⟨hg,hd',hlt⟩:=Qbh hd
   have e0:=hs.e
   have hx:=hs.x x (List.mem_of_getElem? hg)
   simp only[dlI hlt,cond_true,Qb0 hg,Option.bind_some,chk,Qbi]
   rw[show decide ((([]:List Int).length+x.Weights.length)*8≤140737488355328)=true by simp;omega,cond_true]
   refine(Zdo N x _ (by omega) acc ([]++x.Weights) N 0 [] (by simp;omega) rfl).trans ?_
   dsimp only
   rw[List.drop_zero,List.nil_append,List.nil_append,show decide ((acc.length+[(⟨x.Kind,x.From,x.Level,x.Amount,x.Wide,x.Narrow,x.Weights⟩:Qam)].length)*88≤140737488355328)=true by simp;omega,cond_true,w64S (i:=i) (by omega),
    ih (i+1) _ (dlt hd hd' h) (by simp[ha]),hd',List.append_assoc]
   rfl
theorem Zq6 {N:Nat}{n:GNet}(hs:Ql8 n) (hN:1001≤N):Qmb N n=some n:=by
 have e0:=hs.e
 have e1:=hs.t
 unfold Qmb
 rw[Zgx (by omega) hN,Option.bind_some,Qbi]
 refine(Zhh hs hN _ N 0 [] (by simp;omega) rfl).trans ?_
 rw[List.drop_zero,List.nil_append]
theorem Znc (N:Nat) {l:List Int}(hl:l.length≤1000):Qkx N l=some l:=by
 unfold Qkx chk
 rw[show decide ((([]:List Int).length+l.length)*8≤140737488355328)=true by simp;omega,cond_true,List.nil_append]
end
section
open Go.RowKit
def Qrk {α:Type}(i:Nat):Nat→List α→List ((Int×Int)×α)
 |_,[]=>[]
 |j,a::l=>(((i:Int),(j:Int)),a)::Qrk i (j+1) l
def Qir {α:Type}:Nat→List (List α)→List ((Int×Int)×α)
 |_,[]=>[]
 |i,r::o=>Qrk i 0 r++Qir (i+1) o
def Qig {α:Type}(f:α→Int) (U:List (Int×Int)) (l:List ((Int×Int)×α)):Int:=((l.filter fun x=>!U.contains x.1).map fun x=>f x.2).sum
section
variable {α : Type}
theorem Qsk {i:Nat}{a b:Int}{s:α}:∀{l:List α}{j:Nat},((a,b),s)∈Qrk i j l↔a=i∧(j:Int)≤b∧l[(b-j).toNat]? = some s
 |[],j=>by simp[Qrk]
 |x::l,j=>by
  rw[Qrk,List.mem_cons,Qsk (l:=l) (j:=j+1)]
  constructor
  ·rintro (h |⟨h1,h2,h3⟩)
   ·simp only[Prod.mk.injEq] at h
    obtain⟨⟨rfl,rfl⟩,rfl⟩:=h
    exact⟨rfl,Int.le_refl _,by simp⟩
   ·refine⟨h1,by omega,?_⟩
    rw[show(b-(j:Int)).toNat=(b-((j+1:Nat):Int)).toNat+1 by omega]
    simpa using h3
  ·rintro ⟨h1,h2,h3⟩
   by_cases e:b=j
   ·subst e;subst h1
    simp at h3
    exact .inl (by rw[h3])
   ·refine .inr ⟨h1,by omega,?_⟩
    rw[show(b-(j:Int)).toNat=(b-((j+1:Nat):Int)).toNat+1 by omega] at h3
    simpa using h3
theorem Qpr {a b:Int}{s:α}:∀{o:List (List α)}{i:Nat},((a,b),s)∈Qir i o↔(i:Int)≤a∧0≤b∧∃r,o[(a-i).toNat]? = some r∧r[b.toNat]? = some s
 |[],i=>by simp[Qir]
 |r::o,i=>by
  rw[Qir,List.mem_append,Qsk,Qpr (o:=o) (i:=i+1)]
  constructor
  ·rintro (⟨rfl,h2,h3⟩ |⟨h1,h2,q,h3,h4⟩)
   ·exact⟨Int.le_refl _,by omega,r,by simp,by simpa using h3⟩
   ·refine⟨by omega,h2,q,?_,h4⟩
    rw[show(a-(i:Int)).toNat=(a-((i+1:Nat):Int)).toNat+1 by omega]
    simpa using h3
  ·rintro ⟨h1,h2,q,h3,h4⟩
   by_cases e:a=i
   ·subst e
    simp at h3
    subst h3
    exact .inl ⟨rfl,by omega,by simpa using h4⟩
   ·refine .inr ⟨by omega,h2,q,?_,h4⟩
    rw[show(a-(i:Int)).toNat=(a-((i+1:Nat):Int)).toNat+1 by omega] at h3
    simpa using h3
theorem Qwo {i:Nat}:∀(l:List α) (j:Nat),((Qrk i j l).map fun x=>x.1).Nodup
 |[],j=>by simp[Qrk]
 |x::l,j=>by
  rw[Qrk,List.map_cons,List.nodup_cons]
  refine⟨fun h=>?_,Qwo l (j+1)⟩
  obtain⟨⟨⟨a,b⟩,s⟩,h1,h2⟩:=List.mem_map.1 h
  have:=(Qsk.1 h1).2.1
  simp only[Prod.mk.injEq] at h2
  omega
theorem Qwp:∀(o:List (List α)) (i:Nat),((Qir i o).map fun x=>x.1).Nodup
 |[],i=>by simp[Qir]
 |r::o,i=>by
  rw[Qir,List.map_append,List.nodup_append]
  refine⟨Qwo r 0,Qwp o (i+1),fun x hx y hy=>?_⟩
  obtain⟨⟨⟨a,b⟩,s⟩,h1,rfl⟩:=List.mem_map.1 hx
  obtain⟨⟨⟨a',b'⟩,s'⟩,h2,rfl⟩:=List.mem_map.1 hy
  have h3:=(Qsk.1 h1).1
  have h4:=(Qpr.1 h2).1
  intro e
  simp only[Prod.mk.injEq] at e
  omega
theorem Qud:∀(o o':List (List α)) (i:Nat),Qir i (o++o')=Qir i o++Qir (i+o.length) o'
 |[],o',i=>by simp[Qir]
 |r::o,o',i=>by
  rw[List.cons_append,Qir,Qud o o' (i+1),Qir,List.append_assoc,List.length_cons,show i+1+o.length=i+(o.length+1) by omega]
theorem Q15 (f:α→Int) (U:List (Int×Int)) (l l':List ((Int×Int)×α)):Qig f U (l++l')=Qig f U l+Qig f U l':=by
 simp[Qig,List.filter_append]
theorem Qv9 {f:α→Int}{U V:List (Int×Int)}{l:List ((Int×Int)×α)}(h:∀x∈l,(x.1∈U↔x.1∈V)):Qig f U l=Qig f V l:=by
 unfold Qig
 have:(l.filter fun x=>!U.contains x.1)=l.filter fun x=>!V.contains x.1:=List.filter_congr fun x hx=>by
  have:=h x hx
  by_cases h1:x.1∈U
  ·have h2:=this.1 h1
   simp[h1,h2]
  ·have h2:¬x.1∈V:=fun h=>h1 (this.2 h)
   simp[h1,h2]
 rw[this]
theorem Qx3 (f:α→Int) {U:List (Int×Int)}{p:Int×Int}{s:α}:∀{l:List ((Int×Int)×α)},(l.map fun x=>x.1).Nodup→(p,s)∈l→p∉U→Qig f (p::U) l=Qig f U l-f s
 |[],_,h,_=>by simp at h
 |x::l,hn,h,hp=>by
  rw[List.map_cons,List.nodup_cons] at hn
  have e:∀V,Qig f V (x::l)=(if x.1∈V then 0 else f x.2)+Qig f V l:=fun V=>by
   unfold Qig
   by_cases hv:x.1∈V<;>simp[hv]
  rw[e,e]
  rcases List.mem_cons.1 h with h |h
  ·subst h
   rw[if_pos (by simp),if_neg hp]
   have:Qig f (p::U) l=Qig f U l:=Qv9 fun y hy=>by
    rw[List.mem_cons]
    refine⟨fun h=>h.resolve_left fun e=>hn.1 ?_,.inr⟩
    rw[←e]
    exact List.mem_map.2 ⟨y,hy,rfl⟩
   rw[this]
   dsimp only
   omega
  ·rw[Qx3 f hn.2 h hp]
   have hx:x.1≠p:=fun e=>hn.1 (by rw[e];exact List.mem_map.2 ⟨_,h,rfl⟩)
   have:(x.1∈p::U)↔x.1∈U:=by simp[hx]
   by_cases hv:x.1∈U
   ·rw[if_pos (this.2 hv),if_pos hv];omega
   ·rw[if_neg (fun h=>hv (this.1 h)),if_neg hv];omega
theorem Qv8 (f:α→Int) {l:List ((Int×Int)×α)}(hl:(l.map fun x=>x.1).Nodup):∀(P:List (Int×Int)) (S:List α) (U:List (Int×Int)),P.length=S.length→(∀(i:Nat) p s,P[i]? = some p→S[i]? = some s→(p,s)∈l)→P.Nodup→(∀p∈P,p∉U) →
  Qig f (P++U) l=Qig f U l-(S.map f).sum
 |[],[],U,_,_,_,_=>by simp
 |p::P,s::S,U,hlen,hm,hn,hu=>by
  rw[List.nodup_cons] at hn
  have h1:=Qv8 f hl P S U (by simpa using hlen) (fun i q t h1 h2=>hm (i+1) q t (by simpa using h1) (by simpa using h2)) hn.2 fun q hq=>hu q (List.mem_cons_of_mem _ hq)
  rw[List.cons_append,Qx3 f hl (hm 0 p s rfl rfl),h1]
  ·simp only[List.map_cons,List.sum_cons];omega
  ·intro h
   rcases List.mem_append.1 h with h |h
   ·exact hn.1 h
   ·exact hu p List.mem_cons_self h
 |[],_::_,_,h,_,_,_=>by simp at h
 |_::_,[],_,h,_,_,_=>by simp at h
theorem Q14 (f:α→Int) {U:List (Int×Int)}{i:Nat}(hU:∀p∈U,p.1≠i):∀(r:List α) (j:Nat),Qig f U (Qrk i j r)=(r.map f).sum
 |[],j=>rfl
 |x::r,j=>by
  have hx:((i:Int),(j:Int))∉U:=fun h=>hU _ h rfl
  have:Qig f U (Qrk i j (x::r))=f x+Qig f U (Qrk i (j+1) r):=by
   unfold Qig
   rw[Qrk,List.filter_cons,if_pos (by simpa using hx),List.map_cons,List.sum_cons]
  rw[this,Q14 f hU r (j+1),List.map_cons,List.sum_cons]
theorem Qua {f:α→Int}{U:List (Int×Int)}:∀{l:List ((Int×Int)×α)},(∀x∈l,0≤f x.2)→0≤Qig f U l
 |[],_=>by simp[Qig]
 |x::l,h=>by
  have h1:=Qua (U:=U) fun y hy=>h y (List.mem_cons_of_mem x hy)
  have h2:=h x List.mem_cons_self
  unfold Qig at h1 ⊢
  rw[List.filter_cons]
  split
  ·rw[List.map_cons,List.sum_cons];omega
  ·exact h1
theorem Q2n (i:Nat) (r:List α):Qir i [r]=Qrk i 0 r:=by simp[Qir]
end
end
section
open Go.RowKit
structure NetV (n:GNet):Prop where
 tab:tabB n.Table=true
 len:1≤n.Elements.length∧n.Elements.length≤16
 alone:∀x∈n.Elements,Qiw x=true
 level:∀x∈n.Elements,0≤x.Level∧x.Level≤(n.Table.length:Int)-1
 port:∀(i:Nat) x p,n.Elements[i]? = some x→p∈x.From→0≤p.Element∧p.Element<i∧∃y,n.Elements[p.Element.toNat]? = some y∧0≤p.Outlet∧p.Outlet<outl y∧x.Level≤y.Level
 dist:(n.Elements.flatMap fun x=>x.From.map pq).Nodup
theorem Qv0 {els:List Qam}{i:Nat}{lv:Int}:∀{l:List Qa6}{u:List (Int×Int)},Qj7 els i lv u l=true→u.Nodup →
  (u++l.map pq).Nodup∧∀p∈l,0≤p.Element∧p.Element<i∧∃y,els[p.Element.toNat]? = some y∧0≤p.Outlet∧p.Outlet<outl y∧lv≤y.Level
 |[],u,_,hu=>⟨by simpa using hu,by simp⟩
 |p::l,u,h,hu=>by
  rw[Qj7,Bool.and_eq_true] at h
  obtain⟨h1,h2⟩:=h
  rw[Q6q,Bool.and_eq_true,Bool.and_eq_true] at h1
  obtain⟨⟨h3,h4⟩,h5⟩:=h1
  have hn:pq p∉u:=by simpa using h5
  have hu':(u++[pq p]).Nodup:=by
   rw[List.nodup_append]
   exact⟨hu,by simp,fun a ha b hb=>by simp at hb;subst hb;exact fun e=>hn (e▸ha)⟩
  obtain⟨k1,k2⟩:=Qv0 h2 hu'
  refine⟨by rw[List.map_cons];rw[List.append_assoc] at k1;exact k1,fun q hq=>?_⟩
  rcases List.mem_cons.1 hq with rfl |hq
  ·obtain⟨b1,b2⟩:=Qgb.1 h3
   cases hg:getI els q.Element with
   |none=>rw[hg] at h4;cases h4
   |some y=>
    rw[hg] at h4
    simp only[Bool.and_eq_true,decide_eq_true_eq] at h4
    obtain⟨c1,c2⟩:=Qgb.1 h4.1
    exact⟨b1,by omega,y,(Q2g hg).2,c1,by omega,h4.2⟩
  ·exact k2 q hq
theorem Q2o {t:Int}{els:List Qam}:∀{l:List Qam}{i:Nat}{u:List (Int×Int)},Qwq t els i u l=true→u.Nodup →
  (u++l.flatMap fun x=>x.From.map pq).Nodup∧(∀x∈l,0≤x.Level∧x.Level≤t-1)∧∀(j:Nat) x p,l[j]? = some x→p∈x.From→0≤p.Element∧p.Element<(i:Int)+j∧∃y,els[p.Element.toNat]? = some y∧0≤p.Outlet∧p.Outlet<outl y∧x.Level≤y.Level
 |[],i,u,_,hu=>⟨by simpa using hu,by simp,fun j x p h=>by simp at h⟩
 |x::l,i,u,h,hu=>by
  rw[Qwq,Bool.and_eq_true,Bool.and_eq_true] at h
  obtain⟨⟨h1,h2⟩,h3⟩:=h
  obtain⟨k1,k2⟩:=Qv0 h2 hu
  obtain⟨m1,m2,m3⟩:=Q2o h3 k1
  refine⟨by rw[List.flatMap_cons];rw[List.append_assoc] at m1;exact m1,fun y hy=>?_,fun j y p hj hp=>?_⟩
  ·rcases List.mem_cons.1 hy with rfl |hy
   ·exact Qgb.1 h1
   ·exact m2 y hy
  ·cases j with
   |zero=>
    simp at hj
    subst hj
    obtain⟨a,b,c⟩:=k2 p hp
    exact⟨a,by omega,c⟩
   |succ j=>
    obtain⟨a,b,c⟩:=m3 j y p (by simpa using hj) hp
    exact⟨a,by omega,c⟩
theorem Zm6 {n:GNet}(h:netB n=true):NetV n:=by
 unfold netB at h
 simp only[Bool.and_eq_true] at h
 obtain⟨⟨⟨h1,h2⟩,h3⟩,h4⟩:=h
 obtain⟨k1,k2,k3⟩:=Q2o h4 List.nodup_nil
 have:=Qgb.1 h2
 exact⟨h1,⟨by omega,by omega⟩,fun x hx=>List.all_eq_true.1 h3 x hx,k2,fun i x p hi hp=>by
  obtain⟨a,b,c⟩:=k3 i x p hi hp
  exact⟨a,by omega,c⟩,by simpa using k1⟩
def Qmo:Nat→List Qam→List Qa6
 |_,[]=>[]
 |i,x::l=>(List.range (outl x).toNat).map (fun k:Nat=>(⟨(i:Int),(k:Int)⟩:Qa6))++Qmo (i+1) l
def Q3v (n:GNet):List (Int×Int):=n.Elements.flatMap fun x=>x.From.map pq
def Qim (n:GNet):List Qa6:=(Qmo 0 n.Elements).filter fun p=>!(Q3v n).contains (pq p)
section
variable {N : Nat} {n : GNet} (hs : Ql8 n) (hv : NetV n) (hN : 1001 ≤ N)
theorem Q8d (x:Qam) (hx:x.From.length≤1000) (k:List (Int×Int)→Option (List (Int×Int))):∀(m j:Nat) (u:List (Int×Int)),(x.From.drop j).length<m→(u++(x.From.drop j).map pq).Nodup →
  Qdu N k x m j u=k (u++(x.From.drop j).map pq):=by
 intro m
 induction m with
 |zero=>intro j _ h;cases h
 |succ m ih=>
  intro j u h hu
  rw[Qdu]
  cases hd:x.From.drop j with
  |nil=>
   have:=Qbw hd
   simp[show ¬((j:Int)<x.From.length) from by omega]
  |cons p l=>
   obtain⟨hg,hd',hlt⟩:=Qbh hd
   rw[hd] at hu
   have hn:u.contains (p.Element,p.Outlet)=false:=by
    rw[←Bool.not_eq_true,List.contains_iff_mem]
    intro hm
    rw[List.nodup_append] at hu
    exact hu.2.2 _ hm (pq p) (by simp) rfl
   have ea:addQ u (p.Element,p.Outlet)=u++[pq p]:=by
    unfold addQ
    rw[hn];rfl
   simp only[dlI hlt,cond_true,Qb0 hg,Option.bind_some,ea]
   rw[w64S (i:=j) (by omega),ih (j+1) _ (dlt hd hd' h) (by rw[hd',List.append_assoc];exact hu),hd',List.append_assoc]
   rfl
include hs hN in
theorem Zch (k:List (Int×Int)→Option (List (Int×Int))):∀(m i:Nat) (u:List (Int×Int)),(n.Elements.drop i).length<m→(u++(n.Elements.drop i).flatMap fun x=>x.From.map pq).Nodup →
  Qdv N n k m i u=k (u++(n.Elements.drop i).flatMap fun x=>x.From.map pq):=by
 intro m
 induction m with
 |zero=>intro i _ h;cases h
 |succ m ih=>
  intro i u h hu
  rw[Qdv]
  cases hd:n.Elements.drop i with
  |nil=>
   have:=Qbw hd
   simp[show ¬((i:Int)<n.Elements.length) from by omega]
  |cons x l=>
   obtain⟨hg,hd',hlt⟩:=Qbh hd
   have e0:=hs.e
   have hx:=hs.x x (List.mem_of_getElem? hg)
   rw[hd,List.flatMap_cons,←List.append_assoc] at hu
   simp only[dlI hlt,cond_true,Qbi,Qb0 hg,Option.bind_some]
   refine(Q8d x (by omega) _ N 0 u (by simp;omega) (by rw[List.drop_zero];exact(List.nodup_append.1 hu).1)).trans ?_
   rw[List.drop_zero,w64S (i:=i) (by omega),ih (i+1) _ (dlt hd hd' h) (by rw[hd'];exact hu),hd',List.flatMap_cons,List.append_assoc]
include hs hv hN in
theorem Zmb:Qg4 N n=some (Q3v n):=by
 have e0:=hs.e
 unfold Qg4
 simp only[Qbi]
 refine(Zch hs hN _ N 0 [] (by simp;omega) (by rw[List.drop_zero];exact hv.dist)).trans ?_
 rw[List.drop_zero,List.nil_append]
 rfl
theorem Q88 (i:Nat) (u:List (Int×Int)) (o:Nat) (ho:o≤1000) (r:List Qa6) (k:Unit→Option (List Qa6)) (hk:k ()=some r):∀(m j:Nat),o-j<m→j≤o →
  Qc7 N i u k o m j=some ((((List.range' j (o-j)).map (fun k:Nat=>(⟨(i:Int),(k:Int)⟩:Qa6))).filter fun p=>!u.contains (pq p))++r):=by
 intro m
 induction m with
 |zero=>intro j h;cases h
 |succ m ih=>
  intro j h hj
  rw[Qc7]
  by_cases hlt:j<o
  ·rw[show decide ((j:Int)<(o:Int))=true by simpa using hlt,cond_true,w64S (i:=j) (by omega),ih (j+1) (by omega) (by omega),show o-j=(o-(j+1))+1 by omega,List.range'_succ,List.map_cons,List.filter_cons]
   cases hu:u.contains (pq ⟨(i:Int),(j:Int)⟩) with
   |true=>
    rw[show u.contains ((i:Int),(j:Int))=true from hu]
    simp
   |false=>
    rw[show u.contains ((i:Int),(j:Int))=false from hu]
    simp[yld]
  ·rw[show decide ((j:Int)<(o:Int))=false by simpa using hlt,cond_false,hk,show o-j=0 by omega]
   rfl
include hs hN in
theorem Zet (u:List (Int×Int)):∀(m i:Nat),(n.Elements.drop i).length<m →
  Qc8 N n.Elements u m i=some ((Qmo i (n.Elements.drop i)).filter fun p=>!u.contains (pq p)):=by
 intro m
 induction m with
 |zero=>intro i h;cases h
 |succ m ih=>
  intro i h
  rw[Qc8]
  cases hd:n.Elements.drop i with
  |nil=>
   have:=Qbw hd
   simp[show ¬((i:Int)<n.Elements.length) from by omega,Qmo]
  |cons x l=>
   obtain⟨hg,hd',hlt⟩:=Qbh hd
   have e0:=hs.e
   obtain⟨o0,o1⟩:=Qtp (hs.x x (List.mem_of_getElem? hg)).2
   simp only[dlI hlt,cond_true,Qbi,Qb0 hg,Option.bind_some,Zdc]
   have h1:=ih (i+1) (dlt hd hd' h)
   rw[w64S (i:=i) (by omega)]
   have h2:=Q88 (N:=N) i u (outl x).toNat (by omega) _ (fun _=>Qc8 N n.Elements u m ((i+1:Nat):Int)) h1 N 0 (by omega) (Nat.zero_le _)
   rw[show(((outl x).toNat:Nat):Int)=outl x by omega] at h2
   refine h2.trans ?_
   rw[hd',Qmo,List.filter_append,Nat.sub_zero,List.range_eq_range']
theorem Qx2:∀(l:List Qam) (i:Nat),(∀x∈l,x.Weights.length≤25)→(Qmo i l).length≤25*l.length
 |[],_,_=>by simp[Qmo]
 |x::l,i,h=>by
  have:=Qx2 l (i+1) fun y hy=>h y (List.mem_cons_of_mem _ hy)
  have:=Qtp (h x List.mem_cons_self)
  simp only[Qmo,List.length_append,List.length_map,List.length_range,List.length_cons]
  omega
include hs hv hN in
end
def stB (n:GNet) (s:List Int):Bool:=decide (s.length=n.Elements.length)&&s.all fun x=>btw x 0 1000000000000
theorem Zcr {N:Nat}{n:GNet}(hs:Ql8 n) (hN:1001≤N) {s:List Int}(hl:s.length≤1000):Qjl N n s=some (bif netB n&&stB n s then 0 else 1):=by
 have hc:Qde N s=some (s.any fun x=>!btw x 0 1000000000000):=by
  unfold Qde Qe3 Qbi
  refine Qjs (F:=Qch N s fun _=>some (-1)) (k:=fun _=>some (-1)) (q:=Qhx N) (fun n y=>rfl) (fun x=>?_) rfl (by omega) (by omega)
  simp only[Qhx,Qk5,Qku,Option.bind_some]
 unfold Qjl Qj9 stB
 rw[Zm8 hs hN,hc]
 simp only[Option.bind_some,Qw7]
 cases netB n with
 |false=>rfl
 |true=>
  by_cases h1:s.length=n.Elements.length
  ·rw[decide_eq_true h1,show((s.length:Int) != (n.Elements.length:Int))=false by rw[bne_eq_false_iff_eq];omega]
   cases s.all fun x=>btw x 0 1000000000000<;>rfl
  ·rw[decide_eq_false h1,show((s.length:Int) != (n.Elements.length:Int))=true by rw[bne_iff_ne];omega];rfl
def widI (x:Qam) (d:Int):Int:=if x.Wide-d/x.Narrow>0 then x.Wide-d/x.Narrow else 0
theorem Zku {x:Qam}(hx:Qiw x=true) {d:Int}(h0:0≤d) (h1:d≤9000000000000000000):(x.Narrow != 0)=true∧d.tdiv x.Narrow=d/x.Narrow∧0≤d/x.Narrow∧d/x.Narrow≤d∧w64 (d/x.Narrow)=d/x.Narrow∧w64 (x.Wide-d/x.Narrow)=x.Wide-d/x.Narrow∧0≤x.Wide∧x.Wide≤1000000∧1≤x.Narrow:=by
 unfold Qiw at hx
 simp only[Bool.and_eq_true] at hx
 obtain⟨⟨⟨⟨⟨_,hw⟩,hn⟩,_⟩,_⟩,_⟩:=hx
 obtain⟨w0,w1⟩:=Qgb.1 hw
 obtain⟨n0,n1⟩:=Qgb.1 hn
 have a:=Int.ediv_nonneg h0 (show 0≤x.Narrow by omega)
 have b:=Int.ediv_le_self x.Narrow h0
 exact⟨by rw[bne_iff_ne];omega,Int.tdiv_eq_ediv_of_nonneg h0,a,b,Qbp (by omega) (by omega),Qbp (by omega) (by omega),w0,w1,n0⟩
theorem Zcf (N:Nat) {x:Qam}(hx:Qiw x=true) {d:Int}(h0:0≤d) (h1:d≤9000000000000000000):Qgp N x d=some (widI x d):=by
 obtain⟨a,b,c,e,f,g,_⟩:=Zku hx h0 h1
 unfold Qgp widI
 rw[a,b,f,g]
 rfl
end
section
open Go.RowKit
def zs:Qaa:=⟨0,0,0,0⟩
def Qfi (t:List GRow) (l:Int):GRow:=(getI t l).getD ⟨0,0,0,0,0⟩
def Qor (x:Qam) (s:Qaa):Int:=if s.Heat<x.Amount then s.Heat else x.Amount
def actE (t:List GRow) (x:Qam) (s:Qaa):List Qaa×Qa9×Int:=
 if x.Kind=3 then([⟨s.Mass,s.Heat-Qor x s,s.Silica,s.Gas⟩],⟨Qor x s,0,0,0⟩,0)
 else if x.Kind=4 then
  if x.Amount=0 then([(flG (Qfi t x.Level) s).Steam,(flG (Qfi t x.Level) s).Water],⟨0,0,0,(flG (Qfi t x.Level) s).Scale⟩,(flG (Qfi t x.Level) s).Steam.Mass)
  else([totS [(flG (Qfi t x.Level) s).Steam,(Qho (flG (Qfi t x.Level) s).Water [1000-x.Amount,x.Amount]).getD 1 zs],(Qho (flG (Qfi t x.Level) s).Water [1000-x.Amount,x.Amount]).getD 0 zs],
   ⟨(Qkc (flG (Qfi t x.Level) s).Water [1000-x.Amount,x.Amount]).Heat,(Qkc (flG (Qfi t x.Level) s).Water [1000-x.Amount,x.Amount]).Silica,(Qkc (flG (Qfi t x.Level) s).Water [1000-x.Amount,x.Amount]).Gas,(flG (Qfi t x.Level) s).Scale⟩,(flG (Qfi t x.Level) s).Steam.Mass)
 else if x.Kind=5 then(Qho s x.Weights,⟨(Qkc s x.Weights).Heat,(Qkc s x.Weights).Silica,(Qkc s x.Weights).Gas,0⟩,0)
 else([s],⟨0,0,0,0⟩,0)
structure Zov (x:Qam) (s:Qaa) (a:List Qaa×Qa9×Int):Prop where
 v:∀y∈a.1,StrV y
 len:(a.1.length:Int)=outl x
 m:(totS a.1).Mass=s.Mass
 h:(totS a.1).Heat+a.2.1.Heat=s.Heat
 q:(totS a.1).Silica+a.2.1.Silica+a.2.1.Scale=s.Silica
 g:(totS a.1).Gas+a.2.1.Gas=s.Gas
 h0:0≤a.2.1.Heat
 q0:0≤a.2.1.Silica
 g0:0≤a.2.1.Gas
 c0:0≤a.2.1.Scale
 t0:0≤a.2.2
 t1:a.2.2≤1000000
structure Zlb (x:Qam):Prop where
 k:1≤x.Kind∧x.Kind≤6
 well:x.Kind=1→x.From=[]
 a3:x.Kind=3→0≤x.Amount
 a4:x.Kind=4→0≤x.Amount∧x.Amount≤1000
 w5:x.Kind=5→WtsV x.Weights
theorem Qpz {x:Qam}(h:Qiw x=true):Zlb x:=by
 unfold Qiw at h
 simp only[Bool.and_eq_true] at h
 obtain⟨⟨⟨⟨⟨h1,_⟩,_⟩,h4⟩,h5⟩,h6⟩:=h
 refine⟨Qgb.1 h1,fun e=>?_,fun e=>?_,fun e=>?_,fun e=>?_⟩
 ·rw[e] at h4
  obtain⟨_,h7⟩:=Qgb.1 h4
  rw[if_pos rfl] at h7
  exact List.length_eq_zero_iff.1 (by omega)
 ·rw[e] at h5
  have:=Qgb.1 h5
  exact this.1
 ·rw[e] at h5
  have:=Qgb.1 h5
  simpa using this
 ·rw[e] at h6
  exact Zl9 (by simpa using h6)
theorem Q3y {a:Int}(h0:0<a) (h1:a≤1000):WtsV [1000-a,a]:=
 ⟨by simp,by simp,fun x hx=>by simp at hx;rcases hx with rfl |rfl<;>omega,⟨a,by simp,h0⟩⟩
theorem Qvj {s:Qaa}{a b:Int}:∃p q,Qho s [a,b]=[p,q]:=by
 have:(Qho s [a,b]).length=2:=by unfold Qho;rw[List.length_map,Qhm];rfl
 match h:Qho s [a,b],this with
 |[p,q],_=>exact⟨p,q,rfl⟩
theorem Q7w {t:List GRow}(ht:tabB t=true) {x:Qam}(hx:Zlb x) (hl:0≤x.Level∧x.Level≤(t.length:Int)-1) {s:Qaa}(hs:StrV s):Zov x s (actE t x s):=by
 have hs':=hs
 obtain⟨a1,a2,a3,a4,a5,a6,a7,a8⟩:=hs'
 unfold actE
 by_cases h3:x.Kind=3
 ·rw[if_pos h3]
  have hc:0≤Qor x s∧Qor x s≤s.Heat:=by
   have:=hx.a3 h3
   unfold Qor;split<;>omega
  refine⟨fun y hy=>?_,?_,?_,?_,?_,?_,?_,?_,?_,?_,?_,?_⟩
  ·simp at hy;subst hy
   exact⟨a1,a2,by dsimp only;omega,by dsimp only;omega,a5,a6,a7,a8⟩
  ·simp[outl,h3]
  all_goals (try rw[Qoe])
  all_goals (dsimp only;omega)
 ·rw[if_neg h3]
  by_cases h4:x.Kind=4
  ·rw[if_pos h4]
   have hrow:=(Q6n ht (Qgb.2 hl)).2
   have hk:=Qz0 (r:=Qfi t x.Level) hrow hs
   generalize flG (Qfi t x.Level) s=p at hk
   obtain⟨k1,k2,k3,k4,k5,k6,k7,k8⟩:=hk
   have k1':=k1
   obtain⟨b1,b2,b3,b4,b5,b6,b7,b8⟩:=k1'
   have k2':=k2
   obtain⟨c1,c2,c3,c4,c5,c6,c7,c8⟩:=k2'
   by_cases h0:x.Amount=0
   ·rw[if_pos h0]
    refine⟨fun y hy=>?_,?_,?_,?_,?_,?_,?_,?_,?_,?_,?_,?_⟩
    ·simp at hy;rcases hy with rfl |rfl<;>assumption
    ·simp[outl,h4]
    all_goals (try rw[Qnx,Qoe])
    all_goals (dsimp only;omega)
   ·rw[if_neg h0]
    have ha:=hx.a4 h4
    have hw:=Q3y (a:=x.Amount) (by omega) ha.2
    obtain⟨u,v,hp⟩:=Qvj (s:=p.Water) (a:=1000-x.Amount) (b:=x.Amount)
    have hK:=Qjo k2 hw
    rw[hp] at hK ⊢
    simp only[show([u,v]:List Qaa).getD 1 zs=v from rfl,show([u,v]:List Qaa).getD 0 zs=u from rfl]
    generalize Qkc p.Water [1000-x.Amount,x.Amount]=L at hK ⊢
    obtain⟨d0,d1,d2,d3,d4,d5,d6,d7⟩:=hK
    have hu:=d0 u (by simp)
    have hv:=d0 v (by simp)
    rw[Qnx,Qoe] at d1 d2 d3 d4
    dsimp only at d1 d2 d3 d4
    obtain⟨e1,e2,e3,e4,e5,e6,e7,e8⟩:=hu
    obtain⟨f1,f2,f3,f4,f5,f6,f7,f8⟩:=hv
    have et:totS [p.Steam,v]=⟨p.Steam.Mass+v.Mass,p.Steam.Heat+v.Heat,p.Steam.Silica+v.Silica,p.Steam.Gas+v.Gas⟩:=by rw[Qnx,Qoe]
    rw[et]
    refine⟨fun y hy=>?_,?_,?_,?_,?_,?_,?_,?_,?_,?_,?_,?_⟩
    ·simp at hy
     rcases hy with rfl |rfl
     ·refine⟨?_,?_,?_,?_,?_,?_,?_,?_⟩<;>dsimp only<;>omega
     ·exact⟨e1,e2,e3,e4,e5,e6,e7,e8⟩
    ·simp[outl,h4]
    all_goals (try rw[Qnx,Qoe])
    all_goals (dsimp only;omega)
  ·rw[if_neg h4]
   by_cases h5:x.Kind=5
   ·rw[if_pos h5]
    have hw:=hx.w5 h5
    have hK:=Qjo hs hw
    have hlen:(Qho s x.Weights).length=x.Weights.length:=by unfold Qho;rw[List.length_map,Qhm]
    generalize Qho s x.Weights=o at hK hlen ⊢
    generalize Qkc s x.Weights=L at hK ⊢
    obtain⟨d0,d1,d2,d3,d4,d5,d6,d7⟩:=hK
    refine⟨d0,by simp[outl,h5,hlen],d1,d2,?_,d4,d5,d6,d7,?_,?_,?_⟩<;>dsimp only<;>omega
   ·rw[if_neg h5]
    refine⟨fun y hy=>?_,?_,?_,?_,?_,?_,?_,?_,?_,?_,?_,?_⟩
    ·simp at hy;subst hy;exact hs
    ·simp[outl,h4,h5]
    all_goals (try rw[Qoe])
    all_goals (dsimp only;omega)
def Qd1 (o:List (List Qaa)) (p:Qa6):Qaa:=((o.getD p.Element.toNat []).getD p.Outlet.toNat zs)
def insE (o:List (List Qaa)) (ws:List Qaa) (x:Qam):List Qaa:=if x.Kind=1 then ws.take 1 else x.From.map (Qd1 o)
def Qs9 (t:List GRow):List (Qam×Int)→List Qaa→List (List Qaa)→List Qa9→List Int→Int→Nat⊕(List (List Qaa)×List Qa9×List Int×Int)
 |[],_,o,ls,ss,y=>.inr (o,ls,ss,y)
 |(x,d)::l,ws,o,ls,ss,y=>
  if (totS (insE o ws x)).Mass>widI x d then .inl o.length
  else Qs9 t l (if x.Kind=1 then ws.drop 1 else ws) (o++[(actE t x (totS (insE o ws x))).1]) (ls++[(actE t x (totS (insE o ws x))).2.1]) (ss++[d+(actE t x (totS (insE o ws x))).2.1.Scale]) (y+(actE t x (totS (insE o ws x))).2.2)
def Qks (n:GNet) (i:Nat):List (Int×Int):=(n.Elements.take i).flatMap fun x=>x.From.map pq
def wcn (n:GNet) (i:Nat):Nat:=((n.Elements.take i).filter fun x=>decide (x.Kind=1)).length
structure FedV (n:GNet) (ws:List Qaa):Prop where
 len:ws.length=wcn n n.Elements.length
 v:∀s∈ws,StrV s
 m:(totS ws).Mass≤1000000
 g:(totS ws).Gas≤1000000000
structure InvT (n:GNet) (ws:List Qaa) (i:Nat) (o:List (List Qaa)) (ls:List Qa9):Prop where
 lo:o.length=i
 ll:ls.length=i
 rows:∀(k:Nat) y r,n.Elements[k]? = some y→o[k]? = some r→(r.length:Int)=outl y
 v:∀r∈o,∀s∈r,StrV s
 m:Qig (fun s=>s.Mass) (Qks n i) (Qir 0 o)=(totS (ws.take (wcn n i))).Mass
 h:Qig (fun s=>s.Heat) (Qks n i) (Qir 0 o)+(ls.map fun l=>l.Heat).sum=(totS (ws.take (wcn n i))).Heat
 q:Qig (fun s=>s.Silica) (Qks n i) (Qir 0 o)+(ls.map fun l=>l.Silica).sum+(ls.map fun l=>l.Scale).sum=(totS (ws.take (wcn n i))).Silica
 g:Qig (fun s=>s.Gas) (Qks n i) (Qir 0 o)+(ls.map fun l=>l.Gas).sum=(totS (ws.take (wcn n i))).Gas
 l0:∀l∈ls,0≤l.Heat∧0≤l.Silica∧0≤l.Gas∧0≤l.Scale
theorem Qwh (n:GNet) (ws:List Qaa):InvT n ws 0 [] []:=
 ⟨rfl,rfl,fun k y r _ h=>by simp at h,fun r h=>by simp at h,by simp[Qig,Qir,wcn,totS],by simp[Qig,Qir,wcn,totS],by simp[Qig,Qir,wcn,totS],by simp[Qig,Qir,wcn,totS],fun l h=>by simp at h⟩
theorem Qk8 {α:Type}{l:List α}{i:Nat}{x:α}(h:l[i]? = some x):l.take (i+1)=l.take i++[x]:=by rw[List.take_add_one,h];rfl
theorem Q3u {n:GNet}{i:Nat}{x:Qam}(h:n.Elements[i]? = some x):Qks n (i+1)=Qks n i++x.From.map pq:=by
 unfold Qks
 rw[Qk8 h,List.flatMap_append]
 simp
theorem Qod {n:GNet}{i:Nat}{x:Qam}(h:n.Elements[i]? = some x):wcn n (i+1)=wcn n i+if x.Kind=1 then 1 else 0:=by
 unfold wcn
 rw[Qk8 h,List.filter_append,List.length_append]
 by_cases hk:x.Kind=1<;>simp[hk]
theorem Q6j {n:GNet}{i:Nat}:wcn n i≤wcn n n.Elements.length:=by
 unfold wcn
 rw[List.take_length]
 exact((List.take_sublist i n.Elements).filter _).length_le
section
variable {n : GNet} (hv : NetV n) {ws : List Qaa} (hf : FedV n ws) {i : Nat} {o : List (List Qaa)} {ls : List Qa9} (hI : InvT n ws i o ls) {x : Qam} (hx : n.Elements[i]? = some x)
include hv hI hx in
theorem Qp5 {p:Qa6}(hp:p∈x.From):(pq p,Qd1 o p)∈Qir 0 o∧StrV (Qd1 o p)∧(∃r,o[p.Element.toNat]? = some r∧r[p.Outlet.toNat]? = some (Qd1 o p)):=by
 obtain⟨h1,h2,y,h3,h4,h5,_⟩:=hv.port i x p hx hp
 have hlt:p.Element.toNat<o.length:=by rw[hI.lo];omega
 have hr:o[p.Element.toNat]? = some (o[p.Element.toNat]):=List.getElem?_eq_getElem hlt
 have hl:=hI.rows _ y _ h3 hr
 have hlt2:p.Outlet.toNat<(o[p.Element.toNat]).length:=by omega
 have hs:(o[p.Element.toNat])[p.Outlet.toNat]? = some ((o[p.Element.toNat])[p.Outlet.toNat]):=List.getElem?_eq_getElem hlt2
 have e:Qd1 o p=(o[p.Element.toNat])[p.Outlet.toNat]:=by
  unfold Qd1
  rw[List.getD_eq_getElem?_getD,List.getD_eq_getElem?_getD,hr,Option.getD_some,hs,Option.getD_some]
 rw[e]
 refine⟨Qpr.2 ⟨by simpa using h1,h4,_,?_,hs⟩,hI.v _ (List.getElem_mem hlt) _ (List.getElem_mem hlt2),_,hr,hs⟩
 rw[show(p.Element-((0:Nat):Int)).toNat=p.Element.toNat by simp]
 exact hr
include hv hx in
theorem Q87:(x.From.map pq).Nodup∧∀p∈x.From.map pq,p∉Qks n i:=by
 have hd:=hv.dist
 have hi:=(List.getElem?_eq_some_iff.1 hx).1
 have e:n.Elements=n.Elements.take i++x::n.Elements.drop (i+1):=by
  rw[←List.take_append_drop i n.Elements]
  congr 1
  ·simp
  ·rw[List.take_append_drop,List.drop_eq_getElem_cons hi]
   rw[List.getElem?_eq_getElem hi] at hx
   cases hx
   rfl
 rw[e,List.flatMap_append,List.flatMap_cons,List.nodup_append,List.nodup_append] at hd
 obtain⟨_,⟨h2,_,_⟩,h3⟩:=hd
 exact⟨h2,fun p hp hu=>h3 p hu p (List.mem_append_left _ hp) rfl⟩
include hv hI hx in
theorem Qvl (f:Qaa→Int):Qig f (Qks n (i+1)) (Qir 0 o)=Qig f (Qks n i) (Qir 0 o)-((x.From.map (Qd1 o)).map f).sum:=by
 obtain⟨h1,h2⟩:=Q87 hv hx
 rw[Q3u hx,Qv9 (V:=x.From.map pq++Qks n i) (fun y _=>by simp[or_comm])]
 refine Qv8 f (Qwp o 0) _ _ _ (by simp) (fun j p s hp hs=>?_) h1 h2
 rw[List.getElem?_map,Option.map_eq_some_iff] at hp hs
 obtain⟨a,ha,rfl⟩:=hp
 obtain⟨b,hb,rfl⟩:=hs
 rw[ha] at hb
 cases hb
 exact(Qp5 hv hI hx (List.mem_of_getElem? ha)).1
include hv in
theorem Zhg (f:Qaa→Int) (r:List Qaa) (hlo:o.length=i):Qig f (Qks n (i+1)) (Qir 0 (o++[r]))=Qig f (Qks n (i+1)) (Qir 0 o)+(r.map f).sum:=by
 rw[Qud,Q15,Nat.zero_add,hlo,Q2n]
 congr 1
 refine Q14 f (fun p hp=>?_) r 0
 unfold Qks at hp
 obtain⟨y,hy,hp⟩:=List.mem_flatMap.1 hp
 obtain⟨q,hq,rfl⟩:=List.mem_map.1 hp
 obtain⟨k,hk,e⟩:=List.mem_take_iff_getElem.1 hy
 have:=(hv.port k y q (by rw[←e];exact List.getElem?_eq_getElem (by omega)) hq).2.1
 intro he
 have:(pq q).1=q.Element:=rfl
 omega
include hI in
theorem Zdf (f:Qaa→Int) (hf0:∀s,StrV s→0≤f s) (U:List (Int×Int)):0≤Qig f U (Qir 0 o):=by
 refine Qua fun y hy=>?_
 obtain⟨⟨a,b⟩,s⟩:=y
 obtain⟨_,_,r,h1,h2⟩:=Qpr.1 hy
 exact hf0 _ (hI.v r (List.mem_of_getElem? h1) s (List.mem_of_getElem? h2))
include hf in
theorem Q6k (k:Nat):(totS (ws.take k)).Mass≤1000000∧(totS (ws.take k)).Gas≤1000000000:=by
 have h:=Q3z (ws.take k) (ws.drop k)
 rw[List.take_append_drop] at h
 have hm:=hf.m
 have hg:=hf.g
 rw[h] at hm hg
 have hd:=Qpf fun s hs=>hf.v s (List.mem_of_mem_drop (i:=k) hs)
 have:=hd.m0
 have:=hd.g0
 dsimp only at hm hg
 omega
theorem Qqq {α:Type}(f:α→Int):∀(l:List α),(∀x∈l,0≤f x)→0≤(l.map f).sum
 |[],_=>by simp
 |x::l,h=>by
  have h1:=Qqq f l fun y hy=>h y (List.mem_cons_of_mem x hy)
  have h2:=h x List.mem_cons_self
  simp only[List.map_cons,List.sum_cons]
  omega
include hv hf hI hx in
theorem Zd4:(∀s∈insE o (ws.drop (wcn n i)) x,StrV s)∧StrV (totS (insE o (ws.drop (wcn n i)) x)):=by
 have hxm:=List.mem_of_getElem? hx
 by_cases h1:x.Kind=1
 ·have e:insE o (ws.drop (wcn n i)) x=(ws.drop (wcn n i)).take 1:=by unfold insE;rw[if_pos h1]
  rw[e]
  have hw:=Qod hx
  rw[if_pos h1] at hw
  have hle:=Q6j (n:=n) (i:=i+1)
  have hlt:wcn n i<ws.length:=by rw[hf.len];omega
  rw[List.drop_eq_getElem_cons hlt]
  have hs:=hf.v _ (List.getElem_mem hlt)
  rw[List.take_succ_cons,List.take_zero,Qoe]
  exact⟨fun s h=>by rw[List.mem_singleton] at h;rw[h];exact hs,hs⟩
 ·have e:insE o (ws.drop (wcn n i)) x=x.From.map (Qd1 o):=by unfold insE;rw[if_neg h1]
  rw[e]
  have hall:∀s∈x.From.map (Qd1 o),StrV s:=fun s hs=>by
   obtain⟨p,hp,rfl⟩:=List.mem_map.1 hs
   exact(Qp5 hv hI hx hp).2.1
  refine⟨hall,Zgw hall ?_ ?_⟩
  ·have h2:=Qvl hv hI hx (fun s=>s.Mass)
   have h3:=Zdf hI (fun s=>s.Mass) (fun s hs=>hs.m0) (Qks n (i+1))
   have h4:=(Q6k hf (wcn n i)).1
   rw[←hI.m] at h4
   show((x.From.map (Qd1 o)).map fun s=>s.Mass).sum≤_
   omega
  ·have h2:=Qvl hv hI hx (fun s=>s.Gas)
   have h3:=Zdf hI (fun s=>s.Gas) (fun s hs=>hs.g0) (Qks n (i+1))
   have h4:=(Q6k hf (wcn n i)).2
   have h5:=Qqq (fun l:Qa9=>l.Gas) ls fun l hl=>(hI.l0 l hl).2.2.1
   rw[←hI.g] at h4
   show((x.From.map (Qd1 o)).map fun s=>s.Gas).sum≤_
   omega
include hv hf hI hx in
theorem Qu4 (f:Qaa→Int) (hf1:∀l m:List Qaa,((l++m).map f).sum=(l.map f).sum+(m.map f).sum) (r:List Qaa) :
  Qig f (Qks n (i+1)) (Qir 0 (o++[r]))=Qig f (Qks n i) (Qir 0 o)+((ws.take (wcn n (i+1))).map f).sum-((ws.take (wcn n i)).map f).sum-((insE o (ws.drop (wcn n i)) x).map f).sum+(r.map f).sum:=by
 rw[Zhg hv f r hI.lo,Qvl hv hI hx f]
 by_cases h1:x.Kind=1
 ·have e:insE o (ws.drop (wcn n i)) x=(ws.drop (wcn n i)).take 1:=by unfold insE;rw[if_pos h1]
  have hw:=Qod hx
  rw[if_pos h1] at hw
  have hle:=Q6j (n:=n) (i:=i+1)
  have hlt:wcn n i<ws.length:=by rw[hf.len];omega
  have hfr:=(Qpz (hv.alone x (List.mem_of_getElem? hx))).well h1
  rw[e,hfr,hw,Qk8 (List.getElem?_eq_getElem hlt),hf1,List.drop_eq_getElem_cons hlt]
  simp only[List.map_nil,List.sum_nil,List.take_succ_cons,List.take_zero,List.map_cons,List.sum_cons]
  omega
 ·have e:insE o (ws.drop (wcn n i)) x=x.From.map (Qd1 o):=by unfold insE;rw[if_neg h1]
  have hw:=Qod hx
  rw[if_neg h1] at hw
  rw[e,hw,Nat.add_zero]
  omega
include hv hf hI hx in
theorem Qzx {a:List Qaa×Qa9×Int}(ha:Zov x (totS (insE o (ws.drop (wcn n i)) x)) a):InvT n ws (i+1) (o++[a.1]) (ls++[a.2.1]):=by
 obtain⟨k1,k2,k3,k4,k5,k6,k7,k8,k9,k10,_,_⟩:=ha
 have sa:∀f:Qaa→Int,∀l m:List Qaa,((l++m).map f).sum=(l.map f).sum+(m.map f).sum:=fun f l m=>by simp
 refine⟨by simp[hI.lo],by simp[hI.ll],fun k y r hy hr=>?_,fun r hr s hs=>?_,?_,?_,?_,?_,fun l hl=>?_⟩
 ·by_cases hk:k<i
  ·rw[List.getElem?_append_left (by rw[hI.lo];exact hk)] at hr
   exact hI.rows k y r hy hr
  ·rw[List.getElem?_append_right (by rw[hI.lo];omega),hI.lo] at hr
   have:k=i:=by
    have:=(List.getElem?_eq_some_iff.1 hr).1
    simp at this
    omega
   subst this
   rw[hx] at hy
   cases hy
   simp at hr
   subst hr
   exact k2
 ·rcases List.mem_append.1 hr with hr |hr
  ·exact hI.v r hr s hs
  ·simp at hr;subst hr;exact k1 s hs
 ·rw[Qu4 hv hf hI hx _ (sa _),hI.m]
  have e1:(a.1.map fun s=>s.Mass).sum=(totS a.1).Mass:=rfl
  have e2:((insE o (ws.drop (wcn n i)) x).map fun s=>s.Mass).sum=(totS (insE o (ws.drop (wcn n i)) x)).Mass:=rfl
  have e3:∀k,((ws.take k).map fun s=>s.Mass).sum=(totS (ws.take k)).Mass:=fun _=>rfl
  rw[e1,e2,e3,e3]
  omega
 ·rw[Qu4 hv hf hI hx _ (sa _)]
  have e1:(a.1.map fun s=>s.Heat).sum=(totS a.1).Heat:=rfl
  have e2:((insE o (ws.drop (wcn n i)) x).map fun s=>s.Heat).sum=(totS (insE o (ws.drop (wcn n i)) x)).Heat:=rfl
  have e3:∀k,((ws.take k).map fun s=>s.Heat).sum=(totS (ws.take k)).Heat:=fun _=>rfl
  have h:=hI.h
  rw[e1,e2,e3,e3,List.map_append,List.sum_append]
  simp only[List.map_cons,List.map_nil,List.sum_cons,List.sum_nil]
  omega
 ·rw[Qu4 hv hf hI hx _ (sa _)]
  have e1:(a.1.map fun s=>s.Silica).sum=(totS a.1).Silica:=rfl
  have e2:((insE o (ws.drop (wcn n i)) x).map fun s=>s.Silica).sum=(totS (insE o (ws.drop (wcn n i)) x)).Silica:=rfl
  have e3:∀k,((ws.take k).map fun s=>s.Silica).sum=(totS (ws.take k)).Silica:=fun _=>rfl
  have h:=hI.q
  rw[e1,e2,e3,e3,List.map_append,List.sum_append,List.map_append,List.sum_append]
  simp only[List.map_cons,List.map_nil,List.sum_cons,List.sum_nil]
  omega
 ·rw[Qu4 hv hf hI hx _ (sa _)]
  have e1:(a.1.map fun s=>s.Gas).sum=(totS a.1).Gas:=rfl
  have e2:((insE o (ws.drop (wcn n i)) x).map fun s=>s.Gas).sum=(totS (insE o (ws.drop (wcn n i)) x)).Gas:=rfl
  have e3:∀k,((ws.take k).map fun s=>s.Gas).sum=(totS (ws.take k)).Gas:=fun _=>rfl
  have h:=hI.g
  rw[e1,e2,e3,e3,List.map_append,List.sum_append]
  simp only[List.map_cons,List.map_nil,List.sum_cons,List.sum_nil]
  omega
 ·rcases List.mem_append.1 hl with hl |hl
  ·exact hI.l0 l hl
  ·simp at hl;subst hl;exact⟨k7,k8,k9,k10⟩
include hv hf hI hx in
theorem Qzy:Zov x (totS (insE o (ws.drop (wcn n i)) x)) (actE n.Table x (totS (insE o (ws.drop (wcn n i)) x))):=
 Q7w hv.tab (Qpz (hv.alone x (List.mem_of_getElem? hx))) (hv.level x (List.mem_of_getElem? hx)) (Zd4 hv hf hI hx).2
end
end
section
open Go.RowKit
def ofL (k:Int):Nat→List Qam→List Int
 |_,[]=>[]
 |i,x::l=>if x.Kind=k then(i:Int)::ofL k (i+1) l else ofL k (i+1) l
theorem Qwb (k:Int):∀(l:List Qam) (i:Nat),(ofL k i l).length=(l.filter fun x=>decide (x.Kind=k)).length
 |[],_=>rfl
 |x::l,i=>by
  rw[ofL,List.filter_cons]
  by_cases h:x.Kind=k
  ·rw[if_pos h,if_pos (by simpa using h),List.length_cons,List.length_cons,Qwb k l]
  ·rw[if_neg h,if_neg (by simpa using h),Qwb k l]
theorem Q4e (k:Int):∀(l:List Qam) (i:Nat),∀z∈ofL k i l,(i:Int)≤z∧z<(i:Int)+l.length
 |[],_,z,h=>by simp[ofL] at h
 |x::l,i,z,h=>by
  rw[ofL] at h
  simp only[List.length_cons]
  by_cases hk:x.Kind=k
  ·rw[if_pos hk] at h
   rcases List.mem_cons.1 h with rfl |h
   ·omega
   ·have:=Q4e k l (i+1) z h;omega
  ·rw[if_neg hk] at h
   have:=Q4e k l (i+1) z h;omega
theorem Qx4 (k:Int):∀(l m:List Qam) (i:Nat),ofL k i (l++m)=ofL k i l++ofL k (i+l.length) m
 |[],m,i=>by simp[ofL]
 |x::l,m,i=>by
  rw[List.cons_append,ofL,ofL,Qx4 k l m (i+1),List.length_cons,show i+1+l.length=i+(l.length+1) by omega]
  by_cases h:x.Kind=k
  ·rw[if_pos h,if_pos h,List.cons_append]
  ·rw[if_neg h,if_neg h]
section
variable {N : Nat} {n : GNet} (hs : Ql8 n) (hN : 1001 ≤ N)
include hs in
theorem Zm4 (k:Int) (c:List Int→Option (List Int)):∀(m i:Nat) (acc:List Int),(n.Elements.drop i).length<m→acc.length≤i→Qee N n k c m acc i=c (acc++ofL k i (n.Elements.drop i)):=by
 intro m
 induction m with
 |zero=>intro i _ h;cases h
 |succ m ih=>
  intro i acc h ha
  rw[Qee]
  cases hd:n.Elements.drop i with
  |nil=>
   have:=Qbw hd
   simp[show ¬((i:Int)<n.Elements.length) from by omega,ofL]
  |cons x l=>
   obtain⟨hg,hd',hlt⟩:=Qbh hd
   have e0:=hs.e
   simp only[dlI hlt,cond_true,Qb0 hg,Option.bind_some]
   rw[w64S (i:=i) (by omega),ofL]
   by_cases hk:x.Kind=k
   ·rw[show(x.Kind==k)=true by simpa using hk,cond_true,if_pos hk]
    simp only[chk]
    rw[show decide ((acc.length+[(i:Int)].length)*8≤140737488355328)=true by simp;omega,cond_true,ih (i+1) _ (dlt hd hd' h) (by simp;omega),hd',List.append_assoc]
    rfl
   ·rw[show(x.Kind==k)=false by simpa using hk,cond_false,if_neg hk,ih (i+1) _ (dlt hd hd' h) (by omega),hd']
include hs hN in
theorem Zk2 (k:Int):Qjm N n k=some (ofL k 0 n.Elements):=by
 have e0:=hs.e
 unfold Qjm
 simp only[Qbi]
 refine(Zm4 hs k _ N 0 [] (by simp;omega) (by simp)).trans ?_
 rw[List.drop_zero,List.nil_append]
theorem Q86 (P S:List Int) (p:Int) (hp:p∉P) (hl:P.length≤1000) (k:Unit→Option Int):∀(m i:Nat),P.length-i<m→i≤P.length→Qcs N (P++p::S) k p m i=some (P.length:Int):=by
 intro m
 induction m with
 |zero=>intro i h;cases h
 |succ m ih=>
  intro i h hi
  rw[Qcs]
  rw[show decide ((i:Int)<((P++p::S).length:Int))=true by simp;omega,cond_true]
  by_cases hlt:i<P.length
  ·have hg:(P++p::S)[i]? = some P[i]:=by rw[List.getElem?_append_left hlt,List.getElem?_eq_getElem hlt]
   rw[Qb0 hg,Option.bind_some,show(p==P[i])=false by rw[beq_eq_false_iff_ne];intro e;exact hp (e▸List.getElem_mem hlt),cond_false,w64S (i:=i) (by omega)]
   exact ih (i+1) (by omega) (by omega)
  ·have e:i=P.length:=by omega
   subst e
   have hg:(P++p::S)[P.length]? = some p:=by rw[List.getElem?_append_right (Nat.le_refl _)];simp
   rw[Qb0 hg,Option.bind_some,beq_self_eq_true,cond_true]
include hs hN in
theorem Zma {i:Nat}{x:Qam}(hx:n.Elements[i]? = some x) (h1:x.Kind=1):Qfv N (ofL 1 0 n.Elements) i=some (wcn n i:Int):=by
 have hi:=(List.getElem?_eq_some_iff.1 hx).1
 have e0:=hs.e
 have e:n.Elements=n.Elements.take i++x::n.Elements.drop (i+1):=by
  have:n.Elements.drop i=x::n.Elements.drop (i+1):=by
   rw[List.drop_eq_getElem_cons hi]
   rw[List.getElem?_eq_getElem hi] at hx
   cases hx
   rfl
  rw[←this,List.take_append_drop]
 have hlt:(n.Elements.take i).length=i:=by rw[List.length_take];omega
 have e2:ofL 1 0 n.Elements=ofL 1 0 (n.Elements.take i)++(i:Int)::ofL 1 (i+1) (n.Elements.drop (i+1)):=by
  have e3:ofL 1 0 n.Elements=ofL 1 0 (n.Elements.take i++x::n.Elements.drop (i+1)):=congrArg (ofL 1 0) e
  rw[e3,Qx4,hlt,ofL,if_pos h1,Nat.zero_add]
 have hlen:(ofL 1 0 (n.Elements.take i)).length=wcn n i:=Qwb 1 _ 0
 have hb:wcn n i≤18:=by
  rw[←hlen,Qwb]
  have:=List.length_filter_le (fun x:Qam=>decide (x.Kind=1)) (n.Elements.take i)
  omega
 unfold Qfv
 simp only[Qbi]
 rw[e2]
 have:=Q86 (N:=N) (ofL 1 0 (n.Elements.take i)) (ofL 1 (i+1) (n.Elements.drop (i+1))) (i:Int) (fun hm=>by
  have:=Q4e 1 _ 0 _ hm
  omega) (by omega) (fun _=>some (-1)) N 0 (by omega) (Nat.zero_le _)
 rw[hlen] at this
 exact this
theorem Qqu (k:List Qaa→Option (List Qaa)):∀(q y:List Qaa),y.length+q.length≤1000→Qa5 N k q y=k (y++q)
 |[],y,_=>by simp[Qa5]
 |x::q,y,h=>by
  have hc:decide ((y.length+[x].length)*32≤140737488355328)=true:=by simp at h ⊢;omega
  rw[Qa5]
  simp only[chk]
  rw[hc,cond_true,Qqu k q _ (by simp at h ⊢;omega)]
  simp
end
section
variable {N : Nat} {n : GNet} (hs : Ql8 n) (hN : 1001 ≤ N) (hv : NetV n) {ws : List Qaa} (hf : FedV n ws) {i : Nat} {o : List (List Qaa)} {ls : List Qa9} (hI : InvT n ws i o ls) {x : Qam} (hx : n.Elements[i]? = some x)
include hv hI hx in
theorem Zd3 (hfr:x.From.length≤1000) (R:List (List Qaa)):∀(m j:Nat),(x.From.drop j).length<m→Qdn N x (o++R) m j=some ((x.From.drop j).map (Qd1 o)):=by
 intro m
 induction m with
 |zero=>intro j h;cases h
 |succ m ih=>
  intro j h
  rw[Qdn]
  cases hd:x.From.drop j with
  |nil=>
   have:=Qbw hd
   simp[show ¬((j:Int)<x.From.length) from by omega]
  |cons p l=>
   obtain⟨hg,hd',hlt⟩:=Qbh hd
   have hpm:=List.mem_of_getElem? hg
   obtain⟨p1,_,_,_,p4,_,_⟩:=hv.port i x p hx hpm
   obtain⟨_,_,r,hr,hr2⟩:=Qp5 hv hI hx hpm
   have g1:getI (o++R) p.Element=some r:=by
    unfold getI
    rw[if_pos p1,List.getElem?_append_left (List.getElem?_eq_some_iff.1 hr).1,hr]
   have g2:getI r p.Outlet=some (Qd1 o p):=by
    unfold getI
    rw[if_pos p4,hr2]
   simp only[dlI hlt,cond_true,Qb0 hg,Option.bind_some,g1,g2]
   rw[w64S (i:=j) (by omega),ih (j+1) (dlt hd hd' h),hd']
   rfl
include hs hN hv hf hI hx in
theorem Znd (R:List (List Qaa)) (L:List Qa9) (S:List Int) (y:Int):Qca N n.Table n.Elements (o++R) L S ws y i=some (insE o (ws.drop (wcn n i)) x):=by
 have hxs:=hs.x x (List.mem_of_getElem? hx)
 have hS:Qhv N n.Table n.Elements (o++R) L S ws y i=some (insE o (ws.drop (wcn n i)) x):=by
  unfold Qhv insE
  rw[Qb0 hx,Option.bind_some]
  by_cases h1:x.Kind=1
  ·rw[show(x.Kind==1)=true by simpa using h1,cond_true,if_pos h1]
   have hw:=Qod hx
   rw[if_pos h1] at hw
   have hle:=Q6j (n:=n) (i:=i+1)
   have hlt:wcn n i<ws.length:=by rw[hf.len];omega
   rw[Zk2 hs hN 1,Option.bind_some,Zma hs hN hx h1,Option.bind_some,Qb0 (List.getElem?_eq_getElem hlt),Option.bind_some,List.drop_eq_getElem_cons hlt]
   rfl
  ·rw[show(x.Kind==1)=false by simpa using h1,cond_false,if_neg h1]
   have:=Zd3 (N:=N) hv hI hx (by omega) R N 0 (by simp;omega)
   rw[List.drop_zero] at this
   exact this
 unfold Qca Qck
 simp only[Qbi,hS,Option.bind_some]
 have hlen:(insE o (ws.drop (wcn n i)) x).length≤100:=by
  unfold insE
  split
  ·rw[List.length_take];omega
  ·rw[List.length_map];omega
 rw[Qqu _ _ _ (by simp;omega)]
 rfl
end
theorem Qu2 {α:Type}{l:List α}{i:Nat}{x:α}(h:l[i]? = some x):l.set i x=l:=by
 obtain⟨h1,h2⟩:=List.getElem?_eq_some_iff.1 h
 subst h2
 exact List.set_getElem_self h1
section
variable {N : Nat} {n : GNet} (hN : 1001 ≤ N) (hv : NetV n) (ht : n.Table.length ≤ 1000) {i : Nat} {x : Qam} (hx : n.Elements[i]? = some x) {s : Qaa} (hst : StrV s) {D nW : Nat} {ws : List Qaa} {y : Int} {O : List (List Qaa)} {Ls : List Qa9} {Ss : List Int} {d : Int}
 (hlo:i<D) (hLs:Ls[i]? = some ⟨0,0,0,0⟩) (hSs:Ss[i]? = some d) (hd0:0≤d) (hd1:d≤1000000000000000) (hO:∃r,O[i]? = some r) (hy0:0≤y) (hy1:y≤1000000000)
include hN hst hlo in
theorem Q1o {wts:List Int}(hw:WtsV wts) {l0:Qa9}(hL:Ls[i]? = some l0) (hl:i<Ls.length):Qf0 N i s wts n.Table n.Elements D D nW ws y O Ls Ss=some (Qho s wts,Ls.set i ⟨(Qkc s wts).Heat,(Qkc s wts).Silica,(Qkc s wts).Gas,l0.Scale⟩):=by
 have c1:(decide ((0:Int)≤(i:Int))&&decide (i<D))=true:=by simp;omega
 have e:∀q:Qa9,(Ls.set i q)[i]? = some q:=fun q=>List.getElem?_set_self hl
 unfold Qf0
 rw[Zg7 hst hw hN]
 simp only[Option.bind_some,chk,c1,cond_true,Int.toNat_natCast,hL,e,List.set_set]
include hN hv ht hx hst hlo hLs hSs hd0 hd1 hy0 hy1 in
theorem Q34 (hln:i<Ls.length) (h4:x.Kind=4):Qfw N i s n.Table n.Elements D D D ws y O Ls Ss=some ((actE n.Table x s).1,y+(actE n.Table x s).2.2,Ls.set i (actE n.Table x s).2.1,Ss.set i (d+(actE n.Table x s).2.1.Scale)):=by
 have hxm:=List.mem_of_getElem? hx
 have hA:=Qpz (hv.alone x hxm)
 have hlv:=hv.level x hxm
 have hrow:=(Q6n hv.tab (Qgb.2 hlv)).2
 have hk:=Qz0 (r:=Qfi n.Table x.Level) hrow hst
 have hK:=Q7w hv.tab hA hlv hst
 have c1:(decide ((0:Int)≤(i:Int))&&decide (i<D))=true:=by simp;omega
 have ef:Q66 n.Table x.Level s=(flG (Qfi n.Table x.Level) s,0):=by
  unfold Q66 Qfi
  rw[hv.tab,Qp2.2 hst,Qgb.2 hlv];rfl
 have hq1:=hst.s1
 have hm1:=hst.m1
 have cv:=Qpf hK.v
 have:=cv.s0
 unfold Qfw
 simp only[Qb0 hx,Option.bind_some,Zhn hN ht,ef,chk,c1,cond_true,Int.toNat_natCast,hLs,hSs]
 by_cases h0:x.Amount=0
 ·have ha:actE n.Table x s=([(flG (Qfi n.Table x.Level) s).Steam,(flG (Qfi n.Table x.Level) s).Water],⟨0,0,0,(flG (Qfi n.Table x.Level) s).Scale⟩,(flG (Qfi n.Table x.Level) s).Steam.Mass):=by
   unfold actE
   rw[if_neg (show ¬x.Kind=3 by omega),if_pos h4,if_pos h0]
  rw[ha] at hK
  obtain⟨_,_,_,_,cs,_,_,cq,_,cc,t0,t1⟩:=hK
  dsimp only at t0 t1 cs cc cq
  have:=hk.km
  have:=hk.wa.m0
  have:=hk.ks
  have:=hk.wa.s0
  rw[ha,show(x.Amount==0)=true by simpa using h0,cond_true]
  rw[Qbp (x:=y+_) (by omega) (by omega),Qbp (x:=d+_) (by omega) (by omega)]
 ·have ha:actE n.Table x s=([totS [(flG (Qfi n.Table x.Level) s).Steam,(Qho (flG (Qfi n.Table x.Level) s).Water [1000-x.Amount,x.Amount]).getD 1 zs],(Qho (flG (Qfi n.Table x.Level) s).Water [1000-x.Amount,x.Amount]).getD 0 zs],
   ⟨(Qkc (flG (Qfi n.Table x.Level) s).Water [1000-x.Amount,x.Amount]).Heat,(Qkc (flG (Qfi n.Table x.Level) s).Water [1000-x.Amount,x.Amount]).Silica,(Qkc (flG (Qfi n.Table x.Level) s).Water [1000-x.Amount,x.Amount]).Gas,(flG (Qfi n.Table x.Level) s).Scale⟩,(flG (Qfi n.Table x.Level) s).Steam.Mass):=by
   unfold actE
   rw[if_neg (show ¬x.Kind=3 by omega),if_pos h4,if_neg h0]
  have hav:=hA.a4 h4
  have hw:=Q3y (a:=x.Amount) (by omega) hav.2
  have:=hk.km
  have:=hk.st.m0
  have:=hk.wa.m0
  have:=hk.ks
  have:=hk.wa.s0
  have:=hk.sc
  rw[ha,show(x.Amount==0)=false by simpa using h0,cond_false,Qbp (x:=y+_) (by omega) (by omega),Qbp (x:=d+_) (by omega) (by omega),Qbp (x:=1000-x.Amount) (by omega) (by omega)]
  have hsh:=Q1o (N:=N) (n:=n) (nW:=D) (ws:=ws) (y:=y+(flG (Qfi n.Table x.Level) s).Steam.Mass) (O:=O) (Ss:=Ss.set i (d+(flG (Qfi n.Table x.Level) s).Scale)) (Ls:=Ls.set i ⟨0,0,0,(flG (Qfi n.Table x.Level) s).Scale⟩) (l0:=⟨0,0,0,(flG (Qfi n.Table x.Level) s).Scale⟩) hN hk.wa hlo hw (List.getElem?_set_self hln) (by rw[List.length_set];exact hln)
  obtain⟨u,v,hp⟩:=Qvj (s:=(flG (Qfi n.Table x.Level) s).Water) (a:=1000-x.Amount) (b:=x.Amount)
  have hKp:=Qjo hk.wa hw
  rw[hp] at hsh hKp ⊢
  have htot:Qgo N [(flG (Qfi n.Table x.Level) s).Steam,v]=some (totS [(flG (Qfi n.Table x.Level) s).Steam,v]):=by
   rw[Q30 (by simp) hN,Qq1 (fun z hz=>by
    simp at hz
    rcases hz with rfl |rfl
    ·exact hk.st
    ·exact hKp.v _ (by simp)) (by simp)]
  refine(congrArg (fun z=>Option.bind z _) hsh).trans ?_
  simp only[Option.bind_some,show getI [u,v] 1=some v from rfl,show getI [u,v] 0=some u from rfl,List.set_set]
  exact congrArg (fun z=>Option.bind z _) htot
include hN hv ht hx hst hlo hLs hSs hd0 hd1 hO hy0 hy1 in
theorem Zoh (hln:i<Ls.length) (hD:D=O.length) (hDl:D=Ls.length) (hDs:D=Ss.length) {w:Int}(hw:s.Mass≤w) {ins:List Qaa}(hin:Qca N n.Table n.Elements O Ls Ss ws y i=some ins) (htot:Qgo N ins=some s) :
  Qc9 N i w n.Table n.Elements D D D ws y O Ls Ss=some (.inl (y+(actE n.Table x s).2.2,O.set i (actE n.Table x s).1,Ls.set i (actE n.Table x s).2.1,Ss.set i (d+(actE n.Table x s).2.1.Scale))):=by
 have hxm:=List.mem_of_getElem? hx
 have hA:=Qpz (hv.alone x hxm)
 obtain⟨r,hr⟩:=hO
 have c1:(decide ((0:Int)≤(i:Int))&&decide (i<D))=true:=by simp;omega
 unfold Qc9
 simp only[Qhw,Option.bind_some,chk,Qbi,show decide (D≤O.length)=true by simp;omega,show decide (D≤Ls.length)=true by simp;omega,show decide (D≤Ss.length)=true by simp;omega,cond_true]
 rw[show O.take D=O from by rw[hD,List.take_length],show Ls.take D=Ls from by rw[hDl,List.take_length],show Ss.take D=Ss from by rw[hDs,List.take_length],hin,Option.bind_some,htot,Option.bind_some,decide_eq_false (show ¬s.Mass>w by omega),cond_false,Qb0 hx,Option.bind_some]
 simp only[c1,cond_true,Int.toNat_natCast,hr,Option.bind_some,Qgf]
 have hpass:(actE n.Table x s)=([s],⟨0,0,0,0⟩,0)→(y,O.set i [s],Ls,Ss)=(y+(actE n.Table x s).2.2,O.set i (actE n.Table x s).1,Ls.set i (actE n.Table x s).2.1,Ss.set i (d+(actE n.Table x s).2.1.Scale)):=fun e=>by
  rw[e]
  simp only[Int.add_zero]
  rw[Qu2 hLs,Qu2 hSs]
 by_cases h1:x.Kind=1
 ·rw[h1]
  simp only[show((1:Int)==0)=false from rfl,show((1:Int)==1)=true from rfl,cond_true,cond_false]
  rw[hpass (by unfold actE;rw[if_neg (by omega),if_neg (by omega),if_neg (by omega)])]
 by_cases h2:x.Kind=2
 ·rw[h2]
  simp only[show((2:Int)==0)=false from rfl,show((2:Int)==1)=false from rfl,show((2:Int)==2)=true from rfl,cond_true,cond_false]
  rw[hpass (by unfold actE;rw[if_neg (by omega),if_neg (by omega),if_neg (by omega)])]
 by_cases h3:x.Kind=3
 ·rw[h3]
  simp only[show((3:Int)==0)=false from rfl,show((3:Int)==1)=false from rfl,show((3:Int)==2)=false from rfl,show((3:Int)==3)=true from rfl,cond_true,cond_false]
  have e:actE n.Table x s=([⟨s.Mass,s.Heat-Qor x s,s.Silica,s.Gas⟩],⟨Qor x s,0,0,0⟩,0):=by unfold actE;rw[if_pos h3]
  have hc:0≤Qor x s∧Qor x s≤s.Heat:=by
   have:=hA.a3 h3
   have:=hst.h0
   unfold Qor;split<;>omega
  have:=hst.h1
  have:=hst.m1
  unfold Qi0
  simp only[Qb0 hx,Option.bind_some,chk,c1,cond_true,Int.toNat_natCast,hLs]
  rw[show(if s.Heat<x.Amount then s.Heat else x.Amount)=Qor x s from rfl,Qbp (x:=s.Heat-Qor x s) (by omega) (by omega),e]
  simp only[Int.add_zero]
  rw[Qu2 hSs]
 by_cases h4:x.Kind=4
 ·have hsep:=Q34 (N:=N) hN hv ht hx hst (ws:=ws) (O:=O) hlo hLs hSs hd0 hd1 hy0 hy1 hln h4
  rw[h4]
  simp only[show((4:Int)==0)=false from rfl,show((4:Int)==1)=false from rfl,show((4:Int)==2)=false from rfl,show((4:Int)==3)=false from rfl,show((4:Int)==4)=true from rfl,cond_true,cond_false,hsep,Option.bind_some]
 by_cases h5:x.Kind=5
 ·have hsh:=Q1o (N:=N) (n:=n) (nW:=D) (ws:=ws) (y:=y) (O:=O) (Ss:=Ss) (Ls:=Ls) hN hst hlo (hA.w5 h5) hLs hln
  have e:actE n.Table x s=(Qho s x.Weights,⟨(Qkc s x.Weights).Heat,(Qkc s x.Weights).Silica,(Qkc s x.Weights).Gas,0⟩,0):=by unfold actE;rw[if_neg h3,if_neg h4,if_pos h5]
  rw[h5]
  unfold Qio
  simp only[show((5:Int)==0)=false from rfl,show((5:Int)==1)=false from rfl,show((5:Int)==2)=false from rfl,show((5:Int)==3)=false from rfl,show((5:Int)==4)=false from rfl,show((5:Int)==5)=true from rfl,cond_true,cond_false,Qb0 hx,Option.bind_some,hsh,e,Int.add_zero]
  rw[Qu2 hSs]
 have h6:x.Kind=6:=by have:=hA.k;omega
 rw[h6]
 simp only[show((6:Int)==0)=false from rfl,show((6:Int)==1)=false from rfl,show((6:Int)==2)=false from rfl,show((6:Int)==3)=false from rfl,show((6:Int)==4)=false from rfl,show((6:Int)==5)=false from rfl,show((6:Int)==6)=true from rfl,cond_true,cond_false]
 rw[hpass (by unfold actE;rw[if_neg h3,if_neg h4,if_neg h5])]
end
end
section
open Go.RowKit
theorem Zex {N:Nat}{n:GNet}{i:Nat}{w:Int}{D:Nat}{ws:List Qaa}{y:Int}{O:List (List Qaa)}{Ls:List Qa9}{Ss:List Int}{s:Qaa}(hD:D=O.length) (hDl:D=Ls.length) (hDs:D=Ss.length) (hw:¬s.Mass≤w) {ins:List Qaa}(hin:Qca N n.Table n.Elements O Ls Ss ws y i=some ins) (htot:Qgo N ins=some s) :
  Qc9 N i w n.Table n.Elements D D D ws y O Ls Ss=some (.inr i):=by
 unfold Qc9
 simp only[Qhw,Option.bind_some,chk,Qbi,show decide (D≤O.length)=true by simp;omega,show decide (D≤Ls.length)=true by simp;omega,show decide (D≤Ss.length)=true by simp;omega,cond_true]
 rw[show O.take D=O from by rw[hD,List.take_length],show Ls.take D=Ls from by rw[hDl,List.take_length],show Ss.take D=Ss from by rw[hDs,List.take_length],hin,Option.bind_some,htot,Option.bind_some,decide_eq_true (show s.Mass>w by omega),cond_true]
abbrev Q0k:=List (List Qaa)×List Qa9×List Int×Int
def Qsv {β:Type}(r:Nat⊕Q0k) (f:Nat→β) (g:Q0k→β):β:=match r with |.inl a=>f a |.inr b=>g b
theorem Zcw {α:Type}{o:List α}{i k:Nat}(h:o.length=i) (x y:α):(o++List.replicate (k+1) x).set i y=(o++[y])++List.replicate k x:=by
 rw[List.set_append_right _ _ (by omega),h,Nat.sub_self,List.replicate_succ,List.set_cons_zero,List.append_assoc]
 rfl
structure StV (n:GNet) (st:List Int):Prop where
 len:st.length=n.Elements.length
 bd:∀d∈st,0≤d∧d≤1000000000000000
theorem Zq0 {n:GNet}{st:List Int}(hst:stB n st=true):StV n st:=by
 unfold stB at hst
 simp only[Bool.and_eq_true,decide_eq_true_eq] at hst
 refine⟨hst.1,fun d hd=>?_⟩
 have:=Qgb.1 (List.all_eq_true.1 hst.2 d hd)
 omega
theorem Qxy {n:GNet}{st:List Int}(hst:StV n st):st.length=n.Elements.length:=hst.len
theorem Zkv {n:GNet}{st:List Int}(hst:StV n st) {i:Nat}(hi:i<n.Elements.length):∃d,st[i]? = some d∧0≤d∧d≤1000000000000000:=by
 have hl:=hst.len
 obtain⟨a,b⟩:=hst.bd (st[i]'(by omega)) (List.getElem_mem _)
 exact⟨st[i]'(by omega),List.getElem?_eq_getElem _,a,b⟩
section
variable {N : Nat} {n : GNet} (hs : Ql8 n) (hN : 1001 ≤ N) (hv : NetV n) {ws : List Qaa} (hf : FedV n ws) {st : List Int} (hst : StV n st)
include hs hN hv hf hst in
theorem Zoi (k:List (List Qaa)×List Qa9×List Int×Int→Option (Int⊕(Int×Int×List (List Qaa)×List Qa9×List Int))):∀(m i:Nat) (o:List (List Qaa)) (ls:List Qa9) (ss:List Int) (y:Int),(n.Elements.drop i).length<m→i≤n.Elements.length→InvT n ws i o ls→ss.length=i→0≤y→y≤1000000*i →
  Qd8 N n st ws k m i (o++List.replicate (n.Elements.length-i) []) (ls++List.replicate (n.Elements.length-i) ⟨0,0,0,0⟩) (ss++st.drop i) y =
  Qsv (Qs9 n.Table ((n.Elements.drop i).zip (st.drop i)) (ws.drop (wcn n i)) o ls ss y) (fun a=>some (.inl (a:Int))) k:=by
 intro m
 induction m with
 |zero=>intro i _ _ _ _ h;cases h
 |succ m ih=>
  intro i o ls ss y h hi hI hss hy0 hy1
  have hsl:=Qxy hst
  have e0:=hs.e
  rw[Qd8]
  cases hd:n.Elements.drop i with
  |nil=>
   have:=Qbw hd
   have hi2:i=n.Elements.length:=by omega
   subst hi2
   rw[show decide ((n.Elements.length:Int)<(n.Elements.length:Int))=false by simp,cond_false,Nat.sub_self,show st.drop n.Elements.length=[] from List.drop_of_length_le (by omega)]
   simp[Qs9,Qsv]
  |cons x l=>
   obtain⟨hg,hd',hlt⟩:=Qbh hd
   obtain⟨d,hgd,d0,d1⟩:=Zkv hst hlt
   have hds:st.drop i=d::st.drop (i+1):=by
    have hi:=(List.getElem?_eq_some_iff.1 hgd).1
    rw[List.drop_eq_getElem_cons hi]
    rw[List.getElem?_eq_getElem hi] at hgd
    cases hgd;rfl
   obtain⟨iv,it⟩:=Zd4 hv hf hI hg
   have hx:=hs.x x (List.mem_of_getElem? hg)
   have hinl:(insE o (ws.drop (wcn n i)) x).length≤100:=by
    unfold insE
    split
    ·rw[List.length_take];omega
    ·rw[List.length_map];omega
   have hk:n.Elements.length-i=(n.Elements.length-(i+1))+1:=by omega
   have hwid:=Zcf N (hv.alone x (List.mem_of_getElem? hg)) d0 (show d≤9000000000000000000 by omega)
   simp only[dlI hlt,cond_true,Qb0 hg,Qb0 hgd,Option.bind_some,hwid,Int.toNat_natCast,hsl]
   have htot:Qgo N (insE o (ws.drop (wcn n i)) x)=some (totS (insE o (ws.drop (wcn n i)) x)):=by rw[Q30 (by omega) hN,Qq1 iv (by omega)]
   have hin:=Znd hs hN hv hf hI hg (List.replicate (n.Elements.length-i) []) (ls++List.replicate (n.Elements.length-i) ⟨0,0,0,0⟩) (ss++st.drop i) y
   have lO:n.Elements.length=(o++List.replicate (n.Elements.length-i) []).length:=by simp[hI.lo];omega
   have lL:n.Elements.length=(ls++List.replicate (n.Elements.length-i) (⟨0,0,0,0⟩:Qa9)).length:=by simp[hI.ll];omega
   have lS:n.Elements.length=(ss++st.drop i).length:=by simp[hss,hsl];omega
   rw[hds,List.zip_cons_cons,Qs9]
   by_cases hm:(totS (insE o (ws.drop (wcn n i)) x)).Mass>widI x d
   ·rw[if_pos hm,←hds,Zex lO lL lS (by omega) hin htot,hI.lo]
    rfl
   ·rw[if_neg hm]
    have hLs:(ls++List.replicate (n.Elements.length-i) (⟨0,0,0,0⟩:Qa9))[i]? = some ⟨0,0,0,0⟩:=by
     rw[List.getElem?_append_right (by rw[hI.ll];exact Nat.le_refl _),hI.ll,Nat.sub_self,hk,List.replicate_succ];rfl
    have hSs:(ss++st.drop i)[i]? = some d:=by
     rw[List.getElem?_append_right (by omega),hss,Nat.sub_self,hds];rfl
    have hO:∃r,(o++List.replicate (n.Elements.length-i) ([]:List Qaa))[i]? = some r:=⟨[],by
     rw[List.getElem?_append_right (by rw[hI.lo];exact Nat.le_refl _),hI.lo,Nat.sub_self,hk,List.replicate_succ];rfl⟩
    have hel:=Zoh (N:=N) hN hv (by have:=hs.t;omega) hg it (D:=n.Elements.length) hlt hLs hSs d0 (by omega) hO hy0 (by omega) (by rw[←lL];exact hlt) lO lL lS (w:=widI x d) (by omega) hin htot
    have hK:=Qzy hv hf hI hg
    have hI2:=Qzx hv hf hI hg hK
    rw[←hds,hel,Option.bind_some,Sum.elim_inl]
    dsimp only
    have hSet:(ss++st.drop i).set i (d+(actE n.Table x (totS (insE o (ws.drop (wcn n i)) x))).2.1.Scale)=(ss++[d+(actE n.Table x (totS (insE o (ws.drop (wcn n i)) x))).2.1.Scale])++st.drop (i+1):=by
     rw[hds,List.set_append_right _ _ (by omega),hss,Nat.sub_self,List.set_cons_zero,List.append_assoc]
     rfl
    rw[hSet,hk,Zcw hI.lo,Zcw hI.ll,w64S (i:=i) (by omega)]
    have t0:=hK.t0
    have t1:=hK.t1
    have hih:=ih (i+1) _ _ (ss++[d+(actE n.Table x (totS (insE o (ws.drop (wcn n i)) x))).2.1.Scale]) (y+(actE n.Table x (totS (insE o (ws.drop (wcn n i)) x))).2.2) (dlt hd hd' h) hlt hI2 (by simp[hss]) (by omega) (by omega)
    rw[hd'] at hih
    refine hih.trans ?_
    have hw:ws.drop (wcn n (i+1))=if x.Kind=1 then(ws.drop (wcn n i)).drop 1 else ws.drop (wcn n i):=by
     rw[Qod hg]
     split
     ·rw[List.drop_drop]
     ·rfl
    rw[hw]
def Qxd (n:GNet) (st:List Int) (ws:List Qaa):Nat⊕Q0k:=Qs9 n.Table (n.Elements.zip st) ws [] [] [] 0
include hs hN hv hf hst in
theorem Ztc:Qgc N n st ws=Qsv (Qxd n st ws) (fun a=>some (.inl (a:Int))) (fun r=>some (.inr (-1,r.2.2.2,r.1,r.2.1,r.2.2.1))):=by
 have e0:=hs.e
 have hsl:=Qxy hst
 have hl1:=hv.len.1
 have hne:(!st.isEmpty)=true:=by
  cases st with
  |nil=>simp at hsl;omega
  |cons=>rfl
 unfold Qgc Qga
 simp only[chk,hne,Qbi]
 rw[show(decide (0≤(n.Elements.length:Int))&&decide (24*(n.Elements.length:Int)≤281474976710656)&&decide ((n.Elements.length:Int)≤9223372036854775807))=true by simp;omega,show(decide (0≤(n.Elements.length:Int))&&decide (32*(n.Elements.length:Int)≤281474976710656)&&decide ((n.Elements.length:Int)≤9223372036854775807))=true by simp;omega,show decide ((0+st.length)*8≤140737488355328)=true by simp;omega]
 simp only[cond_true,Option.bind_some,Int.toNat_natCast]
 have:=Zoi hs hN hv hf hst (fun x=>match x with |(y12,y13,y14,y15)=>some (.inr (-1,y15,y12,y13,y14))) N 0 [] [] [] 0 (by simp;omega) (Nat.zero_le _) (Qwh n ws) rfl (Int.le_refl _) (by simp)
 simp only[List.nil_append,Nat.sub_zero,List.drop_zero,show wcn n 0=0 from rfl] at this
 refine this.trans ?_
 unfold Qxd
 rfl
end
def fedI (n:GNet) (ws:List Qaa):Int:=
 bif decide (ws.length=wcn n n.Elements.length)&&ws.all strB then(if (totS ws).Mass>1000000 then 3 else if (totS ws).Gas>1000000000 then 3 else 0) else 1
theorem Zi8 (N:Nat) (s:Qaa):Qg8 N s=some (bif strB s then 0 else 1):=by
 unfold Qg8
 rw[Qy4]
 cases strB s<;>rfl
theorem Zrb {N:Nat}{n:GNet}(hs:Ql8 n) (hN:1001≤N) {ws:List Qaa}(hl:ws.length≤1000):Qi1 N n ws=some (fedI n ws):=by
 have hc:Qb1 N ws=some (ws.any fun x=>!strB x):=by
  unfold Qb1 Qcd Qbi
  refine Qjs (F:=Qbj N ws fun _=>some (-1)) (k:=fun _=>some (-1)) (q:=Qd5 N) (fun n y=>rfl) (fun x=>?_) rfl (by omega) (by omega)
  simp only[Qd5,Qka,Zi8,Option.bind_some]
  cases strB x<;>rfl
 have e0:=hs.e
 have hof:(ofL 1 0 n.Elements).length=wcn n n.Elements.length:=by rw[Qwb];unfold wcn;rw[List.take_length]
 unfold Qi1 Qf1 fedI
 simp only[Qbi,Zk2 hs hN 1,Option.bind_some,hc,Qw7,hof,Q30 hl hN]
 by_cases h1:ws.length=wcn n n.Elements.length
 ·rw[decide_eq_true h1,show((ws.length:Int) != (wcn n n.Elements.length:Int))=false by rw[bne_eq_false_iff_eq];omega]
  cases ha:ws.all strB with
  |false=>rfl
  |true=>
   have hall:∀s∈ws,StrV s:=fun s h=>Qp2.1 (List.all_eq_true.1 ha s h)
   rw[Qq1 hall hl]
   simp only[cond_false,Bool.not_true,Bool.true_and,cond_true]
   by_cases h2:(totS ws).Mass>1000000
   ·rw[decide_eq_true h2,if_pos h2];rfl
   ·rw[decide_eq_false h2,if_neg h2]
    by_cases h3:(totS ws).Gas>1000000000
    ·rw[decide_eq_true h3,if_pos h3];rfl
    ·rw[decide_eq_false h3,if_neg h3];rfl
 ·rw[decide_eq_false h1,show((ws.length:Int) != (wcn n n.Elements.length:Int))=true by rw[bne_iff_ne];omega];rfl
theorem Zni {n:GNet}{ws:List Qaa}(h:fedI n ws=0):FedV n ws:=by
 unfold fedI at h
 cases hb:decide (ws.length=wcn n n.Elements.length)&&ws.all strB with
 |false=>rw[hb] at h;cases h
 |true=>
  rw[hb,cond_true] at h
  simp only[Bool.and_eq_true,decide_eq_true_eq] at hb
  by_cases h2:(totS ws).Mass>1000000
  ·rw[if_pos h2] at h;cases h
  ·rw[if_neg h2] at h
   by_cases h3:(totS ws).Gas>1000000000
   ·rw[if_pos h3] at h;cases h
   ·exact⟨hb.1,fun s hs=>Qp2.1 (List.all_eq_true.1 hb.2 s hs),by omega,by omega⟩
def Zmk:Qfg:=⟨[],[],[]⟩
structure Zrj (n:GNet) (st:List Int) (ws:List Qaa) (r:Q0k):Prop where
 inv:InvT n ws n.Elements.length r.1 r.2.1
 ss:r.2.2.1=List.zipWith (fun (d:Int) (l:Qa9)=>d+l.Scale) st r.2.1
 y0:0≤r.2.2.2
theorem Q6l {n:GNet}(hv:NetV n) {ws:List Qaa}(hf:FedV n ws) {st:List Int}(hst:StV n st):∀(l:List (Qam×Int)) (i:Nat) (o:List (List Qaa)) (ls:List Qa9) (ss:List Int) (y:Int) (r:Q0k),
  l=(n.Elements.drop i).zip (st.drop i)→i≤n.Elements.length→InvT n ws i o ls→ss=List.zipWith (fun (d:Int) (q:Qa9)=>d+q.Scale) (st.take i) ls→0≤y→Qs9 n.Table l (ws.drop (wcn n i)) o ls ss y=.inr r→Zrj n st ws r
 |[],i,o,ls,ss,y,r,hl,hi,hI,hss,hy,h=>by
  have hsl:=Qxy hst
  have hlen:(n.Elements.drop i).length=0:=by
   have:=congrArg List.length hl
   rw[List.length_zip,List.length_drop,List.length_drop] at this
   simp at this
   rw[List.length_drop];omega
  rw[List.length_drop] at hlen
  have e:i=n.Elements.length:=by omega
  rw[Qs9] at h
  cases h
  subst e
  exact⟨hI,by dsimp only;rw[hss,List.take_of_length_le (by omega)],hy⟩
 |(x,d)::l,i,o,ls,ss,y,r,hl,hi,hI,hss,hy,h=>by
  have hsl:=Qxy hst
  have hlt:i<n.Elements.length:=by
   apply Decidable.byContradiction
   intro hc
   rw[List.drop_of_length_le (by omega)] at hl
   simp at hl
  have hdE:n.Elements.drop i=n.Elements[i]::n.Elements.drop (i+1):=List.drop_eq_getElem_cons hlt
  have hdS:st.drop i=st[i]'(by omega)::st.drop (i+1):=List.drop_eq_getElem_cons (by omega)
  rw[hdE,hdS,List.zip_cons_cons,List.cons.injEq,Prod.mk.injEq] at hl
  obtain⟨⟨hx,hd⟩,hl⟩:=hl
  have hg:n.Elements[i]? = some x:=by rw[hx];exact List.getElem?_eq_getElem hlt
  have hgd:st[i]? = some d:=by rw[hd];exact List.getElem?_eq_getElem _
  rw[Qs9] at h
  by_cases hm:(totS (insE o (ws.drop (wcn n i)) x)).Mass>widI x d
  ·rw[if_pos hm] at h;cases h
  ·rw[if_neg hm] at h
   have hK:=Qzy hv hf hI hg
   have hI2:=Qzx hv hf hI hg hK
   have hw:ws.drop (wcn n (i+1))=if x.Kind=1 then(ws.drop (wcn n i)).drop 1 else ws.drop (wcn n i):=by
    rw[Qod hg]
    split
    ·rw[List.drop_drop]
    ·rfl
   rw[←hw] at h
   refine Q6l hv hf hst l (i+1) _ _ _ _ r hl hlt hI2 ?_ (by have:=hK.t0;omega) h
   rw[Qk8 hgd,hss,List.zipWith_append (by rw[List.length_take,hI.ll];omega)]
   rfl
theorem Quz {n:GNet}(hv:NetV n) {ws:List Qaa}(hf:FedV n ws) {st:List Int}(hst:StV n st) {r:Q0k}(h:Qxd n st ws=.inr r):Zrj n st ws r:=
 Q6l hv hf hst _ 0 [] [] [] 0 r (by simp) (Nat.zero_le _) (Qwh n ws) (by simp) (Int.le_refl _) h
end
section
set_option maxRecDepth 100000
set_option maxHeartbeats 4000000
open Go.RowKit
def Qjk (_N:Nat) (p0:GRow) (p1:Qaa):Option Qfh:=
  (some (w64 (p1.Heat-(w64 (p1.Mass*p0.Liquid))))).bind fun x1=>
  Qbi (fun y3=>
    Qbi (fun _=>
      Qbi (fun ⟨y6,y7,y8,y9,y10,y11⟩=>
        Qbi (fun y13=>
          (some (if (w64 (p1.Silica-(w64 (y9*p0.Silica))))>0 then w64 (p1.Silica-(w64 (y9*p0.Silica))) else 0)).bind fun x15=>
          some (⟨(⟨y6,y7,0,y8⟩:Qaa),(⟨y9,y10,w64 (p1.Silica-x15),y11⟩:Qaa),y13,x15⟩:Qfh)) fun k14:Int→Option Qfh=>
        bif (decide (x1>0)) then
         k14 (w64 (y10-(w64 (y9*p0.Liquid))))
        else
         k14 (0)) fun k12:Int×Int×Int×Int×Int×Int→Option Qfh=>
      bif (decide (y3>0)) then
       k12 (y3,w64 (y3*p0.Vapour),p1.Gas,w64 (p1.Mass-y3),w64 (p1.Heat-(w64 (y3*p0.Vapour))),0)
      else
       k12 (0,0,0,p1.Mass,p1.Heat,p1.Gas)) fun k5:Unit→Option Qfh=>
    bif (y3==p1.Mass) then
     bif (decide (y3>0)) then
      some (⟨(⟨y3,p1.Heat,0,p1.Gas⟩:Qaa),(⟨0,0,0,0⟩:Qaa),0,p1.Silica⟩:Qfh)
     else
      k5 ()
    else
     k5 ()) fun k4:Int→Option Qfh=>
  bif (decide (x1>0)) then
   bif (decide (p1.Heat≥(w64 (p1.Mass*p0.Vapour)))) then
    k4 (p1.Mass)
   else
    chk ((w64 (p0.Vapour-p0.Liquid)) != 0)<|
    (some (w64 (x1.tdiv (w64 (p0.Vapour-p0.Liquid))))).bind fun x24=>
    k4 (x24)
  else
   k4 (0)
def Qnv (p0:GRow):Slot:=.own 5 [[(I p0.T),(I p0.P),(I p0.Liquid),(I p0.Vapour),(I p0.Silica)]]
def Qnu (p1:Qaa):Slot:=.own 4 [[(I p1.Mass),(I p1.Heat),(I p1.Silica),(I p1.Gas)]]
def Ql1:Slot:=.own 10 [[(I (0)),(I (0)),(I (0)),(I (0)),(I (0)),(I (0)),(I (0)),(I (0)),(I (0)),(I (0))]]
theorem Qvx (N:Nat) (p0:GRow) (p1:Qaa) (r:Qfh) (h:Qjk N p0 p1=some r):Spec prog 63 [(.agg (Qav p0)),(.agg (Qac p1))] [] (.agg (Q0d r)) []:=by
  refine Qak func63 rfl 0 (nle rfl) (fun X φ0 w0 hφ0 hd0=>?_)
  unfold Qjk at h
  refine wxz ?_
  obtain⟨x1,hl2,h⟩:=bno h
  refine wx tbk [(8,rp [(.tmp 15,(I (w64 (p1.Heat-(w64 (p1.Mass*p0.Liquid))))))] (I x1))] ⟨Qin hl2 (aas rfl),tv⟩<|wxz ?_
  obtain⟨k4,hk_k4,h⟩:=jko h
  refine wjn (τ:=Int) (fun t=>k4 t=some r) (fun y3=>⟨mk 118 [(2,.ref 0 5 0 0),(3,.ref 1 4 0 0),(4,.ref 2 10 0 0),(5,I x1),(6,I y3)],[(Qnv p0),(Qnu p1),Ql1]⟩) (fun y3 h=>?_) ?_
  ·subst hk_k4
   refine wxz ?_
   obtain⟨k5,hk_k5,h⟩:=jko h
   refine wjn (τ:=Unit) (fun t=>k5 t=some r) (fun _=>⟨mk 118 [(2,.ref 0 5 0 0),(3,.ref 1 4 0 0),(4,.ref 2 10 0 0),(5,I x1),(6,I y3),(7,.ref 3 10 0 0)],[(Qnv p0),(Qnu p1),Ql1,Ql1]⟩) (fun t h=>?_) ?_
   ·subst hk_k5
    refine wxz ?_
    obtain⟨k12,hk_k12,h⟩:=jko h
    refine wjn (τ:=Int×Int×Int×Int×Int×Int) (fun t=>k12 t=some r) (fun ⟨y6,y7,y8,y9,y10,y11⟩=>⟨mk 118 [(2,.ref 0 5 0 0),(3,.ref 1 4 0 0),(4,.ref 2 10 0 0),(5,I x1),(7,.ref 3 10 0 0)],[(Qnv p0),(Qnu p1),Ql1,(.own 10 [[I y6,I y7,I 0,I y8,I y9,I y10,I p1.Silica,I y11,I 0,I 0]])]⟩) (fun t h=>?_) ?_
    ·subst hk_k12
     obtain⟨y6,y7,y8,y9,y10,y11⟩:=t
     obtain⟨k14,hk_k14,h⟩:=jko h
     refine wjn (τ:=Int) (fun t=>k14 t=some r) (fun y13=>⟨mk 118 [(2,.ref 0 5 0 0),(3,.ref 1 4 0 0),(4,.ref 2 10 0 0),(7,.ref 3 10 0 0)],[(Qnv p0),(Qnu p1),Ql1,(.own 10 [[I y6,I y7,I 0,I y8,I y9,I y10,I p1.Silica,I y11,I y13,I 0]])]⟩) (fun y13 h=>?_) ?_
     ·subst hk_k14
      obtain⟨x15,hl16,h⟩:=bno h
      refine wx tbk [(9,rp [ci 0,(.tmp 107,(I (w64 (p1.Silica-(w64 (y9*p0.Silica))))))] (I x15))] ⟨Qin hl16 (Qiu rfl),tv⟩<|wxz<|wxz<|Qah ?_
      obtain rfl:=osi h
      exact fend ⟨[(.agg [I y6,I y7,I 0,I y8,I y9,I y10,(I (w64 (p1.Silica-x15))),I y11,I y13,I x15])],⟨Qbn (n:=2) (m:=10) (j:=0) (i:=0) (xs:=[[I y6,I y7,I 0,I y8,I y9,I y10,(I (w64 (p1.Silica-x15))),I y11,I y13,I x15]]) (by kernel_rfl) (by kernel_rfl) Zmm (by decide) rfl (nle rfl) rfl,tv⟩,rfl⟩ (NLt.agg _ (nlcc (nlcc (nlcc (nlcc (nlcc nl0))))))
     ·skip
      refine wxz ?_
      refine bfe h (fun hc17 h=>?_) fun hc17 h=>?_
      ·exact wft hc17<|wxz1<|thn<|⟨(w64 (y10-(w64 (y9*p0.Liquid)))),h,(mto (n:=118) [(2,.ref 0 5 0 0),(3,.ref 1 4 0 0),(4,.ref 2 10 0 0),(7,.ref 3 10 0 0)] [0,1,2,3] [(Qnv p0),(Qnu p1),Ql1,(.own 10 [[I y6,I y7,I 0,I y8,I y9,I y10,I p1.Silica,I y11,(I (w64 (y10-(w64 (y9*p0.Liquid))))),I 0]])] hφ0 (prr (prr (prr (prr pn)))) (qb (lcc (lcc (lc rwl ln))) (qb (lcc (lcc ln)) (qb (lcc (lcc (lcc (lcc (lcc ln))))) (qb (lcc (lcc (lcc (lcc (lcc ln))))) qn)))))⟩
      ·exact wfn hc17<|Qaq<|thn<|⟨(0),h,(mto (n:=118) [(2,.ref 0 5 0 0),(3,.ref 1 4 0 0),(4,.ref 2 10 0 0),(7,.ref 3 10 0 0)] [0,1,2,3] [(Qnv p0),(Qnu p1),Ql1,(.own 10 [[I y6,I y7,I 0,I y8,I y9,I y10,I p1.Silica,I y11,I 0,I 0]])] hφ0 (prr (prr (prr (prr pn)))) (qb (lcc (lcc (lc rwl ln))) (qb (lcc (lcc ln)) (qb (lcc (lcc (lcc (lcc (lcc ln))))) (qb (lcc (lcc (lcc (lcc (lcc ln))))) qn)))))⟩
    ·skip
     refine wxz ?_
     refine bfe h (fun hc18 h=>?_) fun hc18 h=>?_
     ·refine wft hc18<|wx tbk [(7,rp _ _)] ⟨Qaz (vs:=[I y3,(I (w64 (y3*p0.Vapour))),I p1.Gas]) rfl ts89 tz89 rfl (by rfl) rfl,tv⟩ ?_
      exact wx1 tbk [(13,rp _ _)] ⟨Qaz (vs:=[(I (w64 (p1.Mass-y3))),(I (w64 (p1.Heat-(w64 (y3*p0.Vapour))))),I p1.Silica]) rfl ts89 tz89 rfl (by rfl) rfl,tv⟩<|thn<|⟨(y3,w64 (y3*p0.Vapour),p1.Gas,w64 (p1.Mass-y3),w64 (p1.Heat-(w64 (y3*p0.Vapour))),0),h,(mto (n:=118) [(2,.ref 0 5 0 0),(3,.ref 1 4 0 0),(4,.ref 2 10 0 0),(5,I x1),(7,.ref 3 10 0 0)] [0,1,2,3] [(Qnv p0),(Qnu p1),Ql1,(.own 10 [[I y3,(I (w64 (y3*p0.Vapour))),I 0,I p1.Gas,(I (w64 (p1.Mass-y3))),(I (w64 (p1.Heat-(w64 (y3*p0.Vapour))))),I p1.Silica,I 0,I 0,I 0]])] hφ0 (prr (prr (prr (pw (prr pn))))) (qb (lcc (lcc (lc rwl ln))) (qb (lcc (lcc ln)) (qb (lcc (lcc (lcc (lcc (lcc ln))))) (qb (lcc (lcc (lcc (lcc (lcc ln))))) qn)))))⟩
     ·exact wfn hc18<|Qaq<|thn<|⟨(0,0,0,p1.Mass,p1.Heat,p1.Gas),h,(mto (n:=118) [(2,.ref 0 5 0 0),(3,.ref 1 4 0 0),(4,.ref 2 10 0 0),(5,I x1),(7,.ref 3 10 0 0)] [0,1,2,3] [(Qnv p0),(Qnu p1),Ql1,(.own 10 [[I 0,I 0,I 0,I 0,I p1.Mass,I p1.Heat,I p1.Silica,I p1.Gas,I 0,I 0]])] hφ0 (prr (prr (prr (pw (prr pn))))) (qb (lcc (lcc (lc rwl ln))) (qb (lcc (lcc ln)) (qb (lcc (lcc (lcc (lcc (lcc ln))))) (qb (lcc (lcc (lcc (lcc (lcc ln))))) qn)))))⟩
   ·skip
    refine bfe h (fun hb19 h=>?_) fun hb19 h=>?_
    ·refine wx tbk [(4,rp [(.tmp 42,(B ((y3==p1.Mass))))] (B true))] ⟨asb hb19 (amv rfl),tv⟩ ?_
     refine bfe h (fun hc20 h=>?_) fun hc20 h=>?_
     ·refine wft hc20<|wx tbk [(5,rp _ _)] ⟨Qaz (vs:=[I y3,I p1.Heat,I p1.Gas]) rfl ts89 tz89 rfl (by rfl) rfl,tv⟩<|wxz<|wxz<|Qah<|Qaj ?_
      obtain rfl:=osi h
      exact fend ⟨[(.agg [I y3,I p1.Heat,I 0,I p1.Gas,I 0,I 0,I 0,I 0,I 0,I p1.Silica])],⟨Qbn (n:=2) (m:=10) (j:=0) (i:=0) (xs:=[[I y3,I p1.Heat,I 0,I p1.Gas,I 0,I 0,I 0,I 0,I 0,I p1.Silica]]) (by kernel_rfl) (by kernel_rfl) Zmm (by decide) rfl (nle rfl) rfl,tv⟩,rfl⟩ (NLt.agg _ (nlcc (nlcc (nlcc (nlcc (nlcc nl0))))))
     ·exact wfn hc20<|Qaq<|thn<|⟨(),h,(mto (n:=118) [(2,.ref 0 5 0 0),(3,.ref 1 4 0 0),(4,.ref 2 10 0 0),(5,I x1),(6,I y3),(7,.ref 3 10 0 0)] [0,1,2,3] [(Qnv p0),(Qnu p1),Ql1,Ql1] hφ0 (prr (prr (prr (pw (pw (prr pn)))))) (qb (lcc (lcc (lc rwl ln))) (qb (lcc (lcc ln)) (qb (lcc (lcc (lcc (lcc (lcc ln))))) (qb (lcc (lcc (lcc (lcc (lcc ln))))) qn)))))⟩
    ·exact wx tbk [(4,rp [(.tmp 42,(B ((y3==p1.Mass))))] (B false))] ⟨asb hb19 (amv rfl),tv⟩<|wfa<|Qaq<|thn<|⟨(),h,(mto (n:=118) [(2,.ref 0 5 0 0),(3,.ref 1 4 0 0),(4,.ref 2 10 0 0),(5,I x1),(6,I y3),(7,.ref 3 10 0 0)] [0,1,2,3] [(Qnv p0),(Qnu p1),Ql1,Ql1] hφ0 (prr (prr (prr (pw (pw (prr pn)))))) (qb (lcc (lcc (lc rwl ln))) (qb (lcc (lcc ln)) (qb (lcc (lcc (lcc (lcc (lcc ln))))) (qb (lcc (lcc (lcc (lcc (lcc ln))))) qn)))))⟩
  ·skip
   refine bfe h (fun hb21 h=>?_) fun hb21 h=>?_
   ·refine wx tbk [(2,rp [(.tmp 17,(B ((decide (x1>0)))))] (B true))] ⟨asb hb21 (amv rfl),tv⟩ ?_
    refine bfe h (fun hc22 h=>?_) fun hc22 h=>?_
    ·exact wft hc22<|wxz1<|thn<|⟨(p1.Mass),h,(mto (n:=118) [(2,.ref 0 5 0 0),(3,.ref 1 4 0 0),(4,.ref 2 10 0 0),(5,I x1),(6,I p1.Mass)] [0,1,2] [(Qnv p0),(Qnu p1),Ql1] hφ0 (prr (prr (prr (pw (pw pn))))) (qb (lcc (lcc (lc rwl ln))) (qb (lcc (lcc ln)) (qb (lcc (lcc (lcc (lcc (lcc ln))))) qn))))⟩
    ·refine wfn hc22<|wxz<|wft hb21 ?_
     obtain⟨hz23,h⟩:=cko h
     obtain⟨x24,hl25,h⟩:=bno h
     exact wx1 tbk [(6,rp [(.tmp 32,I x1),(.tmp 37,(I (w64 (p0.Vapour-p0.Liquid))))] (I (w64 (x1.tdiv (w64 (p0.Vapour-p0.Liquid)))))),(7,rp [(.tmp 38,(I (w64 (x1.tdiv (w64 (p0.Vapour-p0.Liquid))))))] (I x24))] ⟨Qlu rfl (Qmy hz23),Qin hl25 (aas rfl),tv⟩<|thn<|⟨(x24),h,(mto (n:=118) [(2,.ref 0 5 0 0),(3,.ref 1 4 0 0),(4,.ref 2 10 0 0),(5,I x1),(6,I x24)] [0,1,2] [(Qnv p0),(Qnu p1),Ql1] hφ0 (prr (prr (prr (pw (pw pn))))) (qb (lcc (lcc (lc rwl ln))) (qb (lcc (lcc ln)) (qb (lcc (lcc (lcc (lcc (lcc ln))))) qn))))⟩
   ·exact wx tbk [(2,rp [(.tmp 17,(B ((decide (x1>0)))))] (B false))] ⟨asb hb21 (amv rfl),tv⟩<|wfa<|wxz<|wfn hb21<|Qaq<|thn<|⟨(0),h,(mto (n:=118) [(2,.ref 0 5 0 0),(3,.ref 1 4 0 0),(4,.ref 2 10 0 0),(5,I x1),(6,I 0)] [0,1,2] [(Qnv p0),(Qnu p1),Ql1] hφ0 (prr (prr (prr (pw (pw pn))))) (qb (lcc (lcc (lc rwl ln))) (qb (lcc (lcc ln)) (qb (lcc (lcc (lcc (lcc (lcc ln))))) qn))))⟩
def Qf4 (N:Nat) (p0:List Qaa) (k5:Int×Int×Int×Int→Option Qaa):Nat→Int→Int→Int→Int→Int→Option Qaa
  |0,_,_,_,_,_=>none
  |n16+1,y6,y7,y8,y9,y10=>
    bif (decide (y6<(p0.length:Int))) then
     (getI p0 y6).bind fun x18=>
     Qf4 N p0 k5 n16 (w64 (y6+1)) (w64 (y7+x18.Mass)) (w64 (y8+x18.Heat)) (w64 (y9+x18.Silica)) (w64 (y10+x18.Gas))
    else
     k5 (y7,y8,y9,y10)
def Qiz (N:Nat) (p0:List Qaa):Option Qaa:=
  Qbi (fun ⟨y1,y2,y3,y4⟩=>
    some (⟨y1,y2,y3,y4⟩:Qaa)) fun k5:Int×Int×Int×Int→Option Qaa=>
  Qf4 N p0 k5 N 0 0 0 0 0
def Qt7:Slot:=.own 4 [[(I (0)),(I (0)),(I (0)),(I (0))]]
def Q6f (p0:List Qaa):AV:=.dat 4 (p0.map Qac)
theorem Qoh (N:Nat) (p0:List Qaa) (r:Qaa) (h:Qiz N p0=some r):Spec prog 38 [(.dat 4 (p0.map Qac))] [] (.agg (Qac r)) []:=by
  refine Qak func38 rfl 0 (nle rfl) (fun X φ0 w0 hφ0 hd0=>?_)
  unfold Qiz at h
  refine wxz<|wxz ?_
  obtain⟨k5,hk_k5,h⟩:=jko h
  refine wjn (τ:=Int×Int×Int×Int) (fun t=>k5 t=some r) (fun ⟨y1,y2,y3,y4⟩=>⟨mk 45 [(2,.ref 0 4 0 0),(3,.ref 1 4 0 0)],[Qt7,(.own 4 [[I y1,I y2,I y3,I y4]])]⟩) (fun t h=>?_) ?_
  ·subst hk_k5
   obtain⟨y1,y2,y3,y4⟩:=t
   refine wxz<|Qah ?_
   obtain rfl:=osi h
   exact fend ⟨[(.agg [I y1,I y2,I y3,I y4])],⟨Qbn (n:=0) (m:=4) (j:=0) (i:=0) (xs:=[[I y1,I y2,I y3,I y4]]) (by kernel_rfl) (by kernel_rfl) ti89 (by decide) rfl (nle rfl) rfl,tv⟩,rfl⟩ (NLt.agg _ (nlcc (nlcc nl0)))
  ·skip
   refine wxz<|Qap ?_
   refine wmr (mto (n:=45) (l':=[(0,(Q6f p0)),(2,.ref 0 4 0 0),(3,.ref 1 4 0 0),(4,I 0)]) (own':=[Qt7,Qt7]) [(0,(Q6f p0)),(2,.ref 0 4 0 0),(3,.ref 1 4 0 0),(4,I 0)] [0,1] [Qt7,Qt7] hφ0 (pc (rnd Qaf) (prr (prr (pw pn)))) (qb (lcc (lcc ln)) (qb (lcc (lcc ln)) qn))) ?_
   refine Qbv (τ:=Int×Int×Int×Int×Int) (fun n t=>Qf4 N p0 k5 n t.1 t.2.1 t.2.2.1 t.2.2.2.1 t.2.2.2.2=some r) (fun ⟨y6,y7,y8,y9,y10⟩=>⟨mk 45 [(0,(Q6f p0)),(2,.ref 0 4 0 0),(3,.ref 1 4 0 0),(4,I y6)],[Qt7,(.own 4 [[I y7,I y8,I y9,I y10]])]⟩) (fun t h=>by rw[Qf4] at h;cases h) (fun n16 ih t h=>?_) N (0,0,0,0,0) h
   obtain⟨y6,y7,y8,y9,y10⟩:=t
   rw[Qf4] at h
   skip
   refine wsq<|wx tbk [(2,rp _ _)] ⟨alq 4 Qac p0 underlying28,tv⟩ ?_
   refine bfe h (fun hc17 h=>?_) fun hc17 h=>?_
   ·refine wft hc17<|Qaq<|thn<|wsq<|Qap ?_
    obtain⟨x18,hg19,h⟩:=bno h
    obtain⟨hi20,hj21⟩:=gsm hg19
    refine wy1 tbk [(4,rp _ _),(12,rp _ _),(20,rp _ _),(28,rp _ _),(32,rp _ _)] ⟨aiq underlying28 ti89 Qac hi20 hj21,aiq underlying28 ti89 Qac hi20 hj21,aiq underlying28 ti89 Qac hi20 hj21,aiq underlying28 ti89 Qac hi20 hj21,Qaz (vs:=[(I (w64 (y7+x18.Mass))),(I (w64 (y8+x18.Heat))),(I (w64 (y9+x18.Silica))),(I (w64 (y10+x18.Gas)))]) rfl ts89 tz89 rfl (by rfl) rfl,tv⟩<|bln<|thn<|wxz1<|thn ?_
    exact arm (mto (n:=45) [(0,(Q6f p0)),(2,.ref 0 4 0 0),(3,.ref 1 4 0 0),(4,(I (w64 (y6+1))))] [0,1] [Qt7,(.own 4 [[(I (w64 (y7+x18.Mass))),(I (w64 (y8+x18.Heat))),(I (w64 (y9+x18.Silica))),(I (w64 (y10+x18.Gas)))]])] hφ0 (pc (rnd Qaf) (prr (prr (pw pn)))) (qb (lcc (lcc ln)) (qb (lcc (lcc ln)) qn))) (ih (w64 (y6+1),w64 (y7+x18.Mass),w64 (y8+x18.Heat),w64 (y9+x18.Silica),w64 (y10+x18.Gas)) h)
   ·exact wfn hc17<|Qbg<|Qay<|Qay<|Qbf rfl<|thn<|⟨(y7,y8,y9,y10),h,(mto (n:=45) [(2,.ref 0 4 0 0),(3,.ref 1 4 0 0)] [0,1] [Qt7,(.own 4 [[I y7,I y8,I y9,I y10]])] hφ0 (prr (prr pn)) (qb (lcc (lcc ln)) (qb (lcc (lcc ln)) qn)))⟩
def Qje (_N:Nat) (p0 p1 p2:Int):Option Int:=
  bif (p2==0) then
   some 0
  else
   chk (p2 != 0)<|
   (some (w64 ((w64 (p0*p1)).tdiv p2))).bind fun x3=>
   some x3
theorem Qng (N:Nat) (p0 p1:Int) (p2 r:Int) (h:Qje N p0 p1 p2=some r):Spec prog 99 [(I p0),(I p1),(I p2)] [] (I r) []:=by
  refine Qak func99 rfl 0 (nle rfl) (fun X φ0 w0 hφ0 hd0=>?_)
  unfold Qje at h
  refine wxz<|wsq<|wxz ?_
  refine bfe h (fun hc1 h=>?_) fun hc1 h=>?_
  ·refine wft hc1<|wxz<|Qah<|Qaj ?_
   obtain rfl:=osi h
   exact fend ⟨[I 0],⟨rot,tv⟩,rfl⟩ nll
  ·refine wfn hc1<|Qaq<|thn ?_
   obtain⟨hz2,h⟩:=cko h
   obtain⟨x3,hl4,h⟩:=bno h
   refine wx tbk [(4,rp [(.tmp 11,(I (w64 (p0*p1)))),(.tmp 12,I p2)] (I (w64 ((w64 (p0*p1)).tdiv p2)))),(5,rp [(.tmp 13,(I (w64 ((w64 (p0*p1)).tdiv p2))))] (I x3))] ⟨Qlu rfl (Qmy hz2),Qin hl4 (aas rfl),tv⟩<|Qah ?_
   obtain rfl:=osi h
   exact fend ⟨[I x3],⟨rot,tv⟩,rfl⟩ nll
def Qfb (N:Nat) (p0:Qaa) (p1 y8:List Int) (k14:(List Qaa)×Int×Int×Int→Option ((List Qaa)×Qh2)):Nat→(List Qaa)→Int→Int→Int→Int→Option ((List Qaa)×Qh2)
  |0,_,_,_,_,_=>none
  |n25+1,y15,y16,y17,y18,y19=>
    bif (decide (y16<(p1.length:Int))) then
     chk (decide (0≤y16)&&decide (y16.toNat<(p1.length:Int).toNat))<|
     (y8[y16.toNat]?).bind fun x28=>
     (Qje N p0.Heat x28 p0.Mass).bind fun x31=>
     (Qje N p0.Silica x28 p0.Mass).bind fun x33=>
     (Qje N p0.Gas x28 p0.Mass).bind fun x35=>
     chk (decide ((y15.length+([(⟨x28,x31,x33,x35⟩:Qaa)]).length)*32≤140737488355328))<|
     Qfb N p0 p1 y8 k14 n25 (y15++([(⟨x28,x31,x33,x35⟩:Qaa)])) (w64 (y16+1)) (w64 (y17-x31)) (w64 (y18-x33)) (w64 (y19-x35))
    else
     k14 (y15,y17,y18,y19)
def Qdc (N:Nat) (p0:Qaa) (p1:List Int) (y1:Int) (y39:List Bool) (k46:Int→Option ((List Qaa)×Qh2)):Nat→Int→Int→Option ((List Qaa)×Qh2)
  |0,_,_=>none
  |n60+1,y56,y57=>
    bif (decide (y57<(p1.length:Int))) then
     chk (decide (0≤y57)&&decide (y57.toNat<(p1.length:Int).toNat))<|
     (y39[y57.toNat]?).bind fun x63=>
     bif (!x63) then
      bif (decide (y56<0)) then
       Qdc N p0 p1 y1 y39 k46 n60 y57 (w64 (y57+1))
      else
       (getI p1 y57).bind fun x67=>
       chk (y1 != 0)<|
       (getI p1 y56).bind fun x72=>
       chk (y1 != 0)<|
       bif (decide (((w64 (p0.Mass*x67)).tmod y1)>((w64 (p0.Mass*x72)).tmod y1))) then
        Qdc N p0 p1 y1 y39 k46 n60 y57 (w64 (y57+1))
       else
        Qdc N p0 p1 y1 y39 k46 n60 y56 (w64 (y57+1))
     else
      Qdc N p0 p1 y1 y39 k46 n60 y56 (w64 (y57+1))
    else
     k46 (y56)
def Qfa (N:Nat) (p0:Qaa) (p1:List Int) (y1:Int) (k9:(List Int)→Option ((List Qaa)×Qh2)):Nat→Int→(List Int)→(List Bool)→Option ((List Qaa)×Qh2)
  |0,_,_,_=>none
  |n43+1,y37,y38,y39=>
    bif (decide (y37>0)) then
     Qbi (fun y45=>
       chk (decide (0≤y45)&&decide (y45.toNat<(p1.length:Int).toNat))<|
       (y39[y45.toNat]?).bind fun _=>
       chk (decide (0≤y45)&&decide (y45.toNat<(p1.length:Int).toNat))<|
       (y38[y45.toNat]?).bind fun x51=>
       chk (decide (0≤y45)&&decide (y45.toNat<(p1.length:Int).toNat))<|
       (y38[y45.toNat]?).bind fun _=>
       Qfa N p0 p1 y1 k9 n43 (w64 (y37-1)) (y38.set y45.toNat (w64 (x51+1))) (y39.set y45.toNat true)) fun k46:Int→Option ((List Qaa)×Qh2)=>
     Qdc N p0 p1 y1 y39 k46 N (-1) 0
    else
     k9 (y38)
def Qe9 (N:Nat) (p0:Qaa) (p1:List Int) (y1:Int) (k6:Int×(List Int)→Option ((List Qaa)×Qh2)):Nat→Int→Int→(List Int)→Option ((List Qaa)×Qh2)
  |0,_,_,_=>none
  |n84+1,y78,y79,y80=>
    bif (decide (y79<(p1.length:Int))) then
     (getI p1 y79).bind fun x86=>
     chk (y1 != 0)<|
     chk (decide (0≤y79)&&decide (y79.toNat<(p1.length:Int).toNat))<|
     (y80[y79.toNat]?).bind fun _=>
     chk (decide (0≤y79)&&decide (y79.toNat<(p1.length:Int).toNat))<|
     ((y80.set y79.toNat (w64 ((w64 (p0.Mass*x86)).tdiv y1)))[y79.toNat]?).bind fun x95=>
     Qe9 N p0 p1 y1 k6 n84 (w64 (y78-x95)) (w64 (y79+1)) (y80.set y79.toNat (w64 ((w64 (p0.Mass*x86)).tdiv y1)))
    else
     k6 (y78,y80)
def Qe8 (N:Nat) (p1:List Int) (k2:Int→Option ((List Qaa)×Qh2)):Nat→Int→Int→Option ((List Qaa)×Qh2)
  |0,_,_=>none
  |n101+1,y97,y98=>
    bif (decide (y98<(p1.length:Int))) then
     (getI p1 y98).bind fun x103=>
     Qe8 N p1 k2 n101 (w64 (y97+x103)) (w64 (y98+1))
    else
     k2 (y97)
def Qip (N:Nat) (p0:Qaa) (p1:List Int):Option ((List Qaa)×Qh2):=
  Qbi (fun y1=>
    chk (decide (0≤(p1.length:Int))&&decide (8*(p1.length:Int)≤281474976710656)&&decide ((p1.length:Int)≤9223372036854775807))<|
    Qbi (fun ⟨y4,y5⟩=>
      chk (decide (0≤(p1.length:Int))&&decide (1*(p1.length:Int)≤281474976710656)&&decide ((p1.length:Int)≤9223372036854775807))<|
      Qbi (fun y8=>
        Qbi (fun ⟨y10,y11,y12,y13⟩=>
          some (y10,(⟨y11,y12,y13⟩:Qh2))) fun k14:(List Qaa)×Int×Int×Int→Option ((List Qaa)×Qh2)=>
        Qfb N p0 p1 y8 k14 N ([]) 0 p0.Heat p0.Silica p0.Gas) fun k9:(List Int)→Option ((List Qaa)×Qh2)=>
      Qfa N p0 p1 y1 k9 N y4 y5 (List.replicate (p1.length:Int).toNat false)) fun k6:Int×(List Int)→Option ((List Qaa)×Qh2)=>
    Qe9 N p0 p1 y1 k6 N p0.Mass 0 (List.replicate (p1.length:Int).toNat 0)) fun k2:Int→Option ((List Qaa)×Qh2)=>
  Qe8 N p1 k2 N 0 0
def Qgg (p0:Qaa):Slot:=.own 4 [[(I p0.Mass),(I p0.Heat),(I p0.Silica),(I p0.Gas)]]
def Qf8:Slot:=.own 3 [[(I (0)),(I (0)),(I (0))]]
def Zkt (p1:List Int):Slot:=.own 1 ((List.replicate (p1.length:Int).toNat 0:List Int).map Qad)
def Zks (p1:List Int):Slot:=.own 1 ((List.replicate (p1.length:Int).toNat false:List Bool).map Qqv)
def Qjv (y39:List Bool):Slot:=.own 1 (y39.map Qqv)
def Qy0 (p1:List Int) (y57:Int) (y39:List Bool) (x63:Bool):List (Nat×Rec):=[(2,rb [((.tmp 71),(.own 3 1 (0) ((p1.length:Int).toNat))),((.tmp 72),(I y57))] [(3,(Qjv y39))] (.ref 3 1 y57.toNat 0)),(3,rb [((.tmp 73),(.ref 3 1 y57.toNat 0))] [(3,(Qjv y39))] (B x63))]
def Qy1 (y80:List Int) (y79:Int) (p0:Qaa) (x86 y1:Int):Slot:=.own 1 ((y80.set y79.toNat (w64 ((w64 (p0.Mass*x86)).tdiv y1)):List Int).map Qad)
theorem Qpm (N:Nat) (p0:Qaa) (p1:List Int) (r:((List Qaa)×Qh2)) (h:Qip N p0 p1=some r):Spec prog 64 [(.agg (Qac p0)),(.dat 1 (p1.map Qad))] [] (.tup [(.dat 4 (r.1.map Qac)),(.agg (Ze5 r.2))]) []:=by
  refine Qak func64 rfl 0 (nle rfl) (fun X φ0 w0 hφ0 hd0=>?_)
  unfold Qip at h
  refine wxz<|wxe ?_
  obtain⟨k2,hk_k2,h⟩:=jko h
  refine wjn (τ:=Int) (fun t=>k2 t=some r) (fun y1=>⟨mk 172 [(1,(.dat 1 (p1.map Qad))),(2,.ref 0 4 0 0),(5,.ref 1 3 0 0),(6,I y1),(7,I p0.Mass)],[(Qgg p0),Qf8]⟩) (fun y1 h=>?_) ?_
  ·subst hk_k2
   obtain⟨hm3,h⟩:=cko h
   refine wx tbk [(1,rp _ _),(2,⟨[(.tmp 34,(I ((p1.length:Int)))),(.tmp 34,(I ((p1.length:Int))))],[(2,.unused)],(.own 2 1 (0) ((p1.length:Int).toNat)),[(2,(Zkt p1))],false⟩)] ⟨alq 1 Qad p1 underlying27,Qmd rfl underlying27 te3 tz3 rfl (Qt2 hm3) rfl (Qt1 hm3) (Qyp hm3) (Qvq Qad rfl),tv⟩ ?_
   obtain⟨k6,hk_k6,h⟩:=jko h
   refine wjn (τ:=Int×(List Int)) (fun t=>k6 t=some r) (fun ⟨y4,y5⟩=>⟨mk 172 [(1,(.dat 1 (p1.map Qad))),(2,.ref 0 4 0 0),(5,.ref 1 3 0 0),(6,I y1),(7,I y4),(9,(.own 2 1 (0) ((p1.length:Int).toNat)))],[(Qgg p0),Qf8,(.own 1 (y5.map Qad))]⟩) (fun t h=>?_) ?_
   ·subst hk_k6
    obtain⟨y4,y5⟩:=t
    obtain⟨hm7,h⟩:=cko h
    refine wx tbk [(1,rp _ _),(2,⟨[(.tmp 61,(I ((p1.length:Int)))),(.tmp 61,(I ((p1.length:Int))))],[(3,.unused)],(.own 3 1 (0) ((p1.length:Int).toNat)),[(3,(Zks p1))],false⟩)] ⟨alq 1 Qad p1 underlying27,Qmd rfl underlying185 te4 tz4 rfl (Qt2 hm7) rfl (Qt1 hm7) (Qyp hm7) (Qvq Qqv rfl),tv⟩ ?_
    obtain⟨k9,hk_k9,h⟩:=jko h
    refine wjn (τ:=(List Int)) (fun t=>k9 t=some r) (fun y8=>⟨mk 172 [(1,(.dat 1 (p1.map Qad))),(2,.ref 0 4 0 0),(5,.ref 1 3 0 0),(9,(.own 2 1 (0) ((p1.length:Int).toNat)))],[(Qgg p0),Qf8,(.own 1 (y8.map Qad))]⟩) (fun y8 h=>?_) ?_
    ·subst hk_k9
     refine wx tbk [(6,rp _ _)] ⟨Qaz (vs:=[I p0.Heat,I p0.Silica,I p0.Gas]) rfl Zqu Zmf rfl (by rfl) rfl,tv⟩<|wxz ?_
     obtain⟨k14,hk_k14,h⟩:=jko h
     refine wjn (τ:=(List Qaa)×Int×Int×Int) (fun t=>k14 t=some r) (fun ⟨y10,y11,y12,y13⟩=>⟨mk 172 [(5,.ref 0 3 0 0),(14,.ref 1 3 0 0),(15,(.acc 2 89 4 (y10.map Qac)))],[Qf8,(.own 3 [[I y11,I y12,I y13]]),.tok]⟩) (fun t h=>?_) ?_
     ·subst hk_k14
      obtain⟨y10,y11,y12,y13⟩:=t
      refine wxe<|Qah ?_
      obtain rfl:=osi h
      exact fend ⟨[(.dat 4 (y10.map Qac)),(.agg [I y11,I y12,I y13])],⟨Qdi (v:=(.acc 2 89 4 (y10.map Qac))) rot Less.acc,Qbn (n:=0) (m:=3) (j:=0) (i:=0) (xs:=[[I y11,I y12,I y13]]) (by kernel_rfl) (by kernel_rfl) Zqy (by decide) rfl (nle rfl) rfl,tv⟩,rfl⟩ (NLt.tup _ (nlc (nld Qaf _) (nlc (NLt.agg _ (nlcc (nlc nll nl0))) nl0)))
     ·skip
      refine wxz<|Qap ?_
      refine wmr (Mor.trans (Qnq 4 89 4 15 (by kernel_rfl) (by kernel_rfl)) (mto (n:=172) (l':=[(1,(.dat 1 (p1.map Qad))),(2,.ref 0 4 0 0),(5,.ref 1 3 0 0),(9,(.own 2 1 (0) ((p1.length:Int).toNat))),(14,.ref 3 3 0 0),(15,(.acc 4 89 4 ((([]):List Qaa).map Qac))),(16,I 0)]) (own':=[(Qgg p0),Qf8,(.own 1 (y8.map Qad)),(.own 3 [[I p0.Heat,I p0.Silica,I p0.Gas]]),.tok]) [(1,(.dat 1 (p1.map Qad))),(2,.ref 0 4 0 0),(5,.ref 1 3 0 0),(9,(.own 2 1 (0) ((p1.length:Int).toNat))),(14,.ref 3 3 0 0),(15,(.acc 4 89 4 (([]:List Qaa).map Qac))),(16,I 0)] [0,1,2,3,4] [(Qgg p0),Qf8,(.own 1 (y8.map Qad)),(.own 3 [[I p0.Heat,I p0.Silica,I p0.Gas]]),.tok] hφ0 (pc (rnd Qag) (prr (prr (pc (.rn (Qa7 rfl)) (prr (pc (.rn (Qa3 rfl (Qa0 Qaf _))) (pw pn))))))) (qb (lcc (lcc ln)) (qb (lcc (lc rwl ln)) (qc (spr Qag) (qb (lcc (lc rwl ln)) (qc .tok qn))))))) ?_
      refine Qbv (τ:=(List Qaa)×Int×Int×Int×Int) (fun n t=>Qfb N p0 p1 y8 k14 n t.1 t.2.1 t.2.2.1 t.2.2.2.1 t.2.2.2.2=some r) (fun ⟨y15,y16,y17,y18,y19⟩=>⟨mk 172 [(1,(.dat 1 (p1.map Qad))),(2,.ref 0 4 0 0),(5,.ref 1 3 0 0),(9,(.own 2 1 (0) ((p1.length:Int).toNat))),(14,.ref 3 3 0 0),(15,(.acc 4 89 4 (y15.map Qac))),(16,I y16)],[(Qgg p0),Qf8,(.own 1 (y8.map Qad)),(.own 3 [[I y17,I y18,I y19]]),.tok]⟩) (fun t h=>by rw[Qfb] at h;cases h) (fun n25 ih t h=>?_) N ([],0,p0.Heat,p0.Silica,p0.Gas) h
      obtain⟨y15,y16,y17,y18,y19⟩:=t
      rw[Qfb] at h
      skip
      refine wsq<|wx tbk [(2,rp _ _)] ⟨alq 1 Qad p1 underlying27,tv⟩ ?_
      refine bfe h (fun hc26 h=>?_) fun hc26 h=>?_
      ·refine wft hc26<|Qaq<|thn<|wsq<|Qap ?_
       obtain⟨hi27,h⟩:=cko h
       obtain⟨hi27a,hi27b⟩:=Qea hi27
       obtain⟨x28,hg29,h⟩:=bno h
       refine wx tbk [(2,rb [(.tmp 126,(.own 2 1 (0) ((p1.length:Int).toNat))),(.tmp 127,I y16)] [(2,(.own 1 (y8.map Qad)))] (.ref 2 1 y16.toNat 0)),(3,rb [(.tmp 128,(.ref 2 1 y16.toNat 0))] [(2,(.own 1 (y8.map Qad)))] (I x28))] ⟨aio rfl underlying27 ti3 (odt hi27a) (odt hi27b) (Nat.zero_add _),ald rfl ti3 (by decide) (mgt Qad hg29) (nle rfl) rfl,tv⟩ ?_
       obtain⟨x31,hf30,h⟩:=bno h
       obtain⟨x33,hf32,h⟩:=bno h
       obtain⟨x35,hf34,h⟩:=bno h
       refine wxd tbk [(6,rp _ _),(12,rp _ _),(18,rp _ _),(19,rp _ _)] ⟨apv Q4o (Qng N p0.Heat x28 p0.Mass _ hf30) (nlcc (nlc nll nl0)) nll,apv Q4o (Qng N p0.Silica x28 p0.Mass _ hf32) (nlcc (nlc nll nl0)) nll,apv Q4o (Qng N p0.Gas x28 p0.Mass _ hf34) (nlcc (nlc nll nl0)) nll,Qaz (vs:=[I x28,I x31,I x33,I x35]) rfl ts89 tz89 rfl (by rfl) rfl,tv⟩ ?_
       obtain⟨ha36,h⟩:=cko h
       refine wx tbk [(2,rp [(.tmp 151,(.agg [I x28,I x31,I x33,I x35]))] (.dat 4 (([(⟨x28,x31,x33,x35⟩:Qaa)]:List Qaa).map Qac))),(3,⟨[(.tmp 150,(.acc 4 89 4 (y15.map Qac))),(.tmp 152,(.dat 4 (([(⟨x28,x31,x33,x35⟩:Qaa)]:List Qaa).map Qac)))],[(4,.tok),(6,.unused)],(.acc 6 89 4 ((y15++([(⟨x28,x31,x33,x35⟩:Qaa)]):List Qaa).map Qac)),[(4,.dead),(6,.tok)],false⟩)] ⟨Qbo (vs:=[(.agg [I x28,I x31,I x33,I x35])]) rfl underlying28 ti89 tz89 rfl (by decide) rfl (by decide) (by rfl) (by rfl) (by rfl) rfl,Qd6 rfl underlying28 te89 (Base.acc _ _) rfl rfl (by rfl) (Qg2 Qac ha36) (Qg1 Qac ha36 (by decide)) (Qg0 Qac) rfl rfl,tv⟩ ?_
       exact wx1 tbk [(15,rp _ _)] ⟨Qaz (vs:=[(I (w64 (y17-x31))),(I (w64 (y18-x33))),(I (w64 (y19-x35)))]) rfl Zqu Zmf rfl (by rfl) rfl,tv⟩<|bln<|thn<|wxz1<|thn<|arm (mto (n:=172) [(1,(.dat 1 (p1.map Qad))),(2,.ref 0 4 0 0),(5,.ref 1 3 0 0),(9,(.own 2 1 (0) ((p1.length:Int).toNat))),(14,.ref 3 3 0 0),(15,(.acc 6 89 4 ((y15++([(⟨x28,x31,x33,x35⟩:Qaa)]):List Qaa).map Qac))),(16,(I (w64 (y16+1))))] [0,1,2,3,6] [(Qgg p0),Qf8,(.own 1 (y8.map Qad)),(.own 3 [[(I (w64 (y17-x31))),(I (w64 (y18-x33))),(I (w64 (y19-x35)))]]),.tok] hφ0 (pc (rnd Qag) (prr (prr (pc (.rn (Qa7 rfl)) (prr (pc (.rn (Qa3 rfl (Qa0 Qaf _))) (pw pn))))))) (qb (lcc (lcc ln)) (qb (lcc (lc rwl ln)) (qc (spr Qag) (qb (lcc (lc rwl ln)) (qc .tok qn)))))) (ih (y15++([(⟨x28,x31,x33,x35⟩:Qaa)]),w64 (y16+1),w64 (y17-x31),w64 (y18-x33),w64 (y19-x35)) h)
      ·exact wfn hc26<|Qbg<|Qay<|Qay<|Qbf rfl<|thn<|⟨(y15,y17,y18,y19),h,(mto (n:=172) [(5,.ref 1 3 0 0),(14,.ref 3 3 0 0),(15,(.acc 4 89 4 (y15.map Qac)))] [1,3,4] [Qf8,(.own 3 [[I y17,I y18,I y19]]),.tok] hφ0 (prr (prr (pc (.rn (Qa3 rfl (Qa0 Qaf _))) pn))) (qb (lcc (lc rwl ln)) (qb (lcc (lc rwl ln)) (qc .tok qn))))⟩
    ·skip
     refine Qap<|wmr (mto (n:=172) (l':=[(1,(.dat 1 (p1.map Qad))),(2,.ref 0 4 0 0),(5,.ref 1 3 0 0),(6,I y1),(7,I y4),(9,(.own 2 1 (0) ((p1.length:Int).toNat))),(11,(.own 3 1 (0) ((p1.length:Int).toNat)))]) (own':=[(Qgg p0),Qf8,(.own 1 (y5.map Qad)),(.own 1 (((List.replicate (p1.length:Int).toNat false):List Bool).map Qqv))]) [(1,(.dat 1 (p1.map Qad))),(2,.ref 0 4 0 0),(5,.ref 1 3 0 0),(6,I y1),(7,I y4),(9,(.own 2 1 (0) ((p1.length:Int).toNat))),(11,(.own 3 1 (0) ((p1.length:Int).toNat)))] [0,1,2,3] [(Qgg p0),Qf8,(.own 1 (y5.map Qad)),(Zks p1)] hφ0 (pc (rnd Qag) (prr (prr (pw (pw (pc (.rn (Qa7 rfl)) (pc (.rn (Qa7 rfl)) pn))))))) (qb (lcc (lcc ln)) (qb (lcc (lc rwl ln)) (qc (spr Qag) (qc (spr Qpq) qn))))) ?_
     refine Qbv (τ:=Int×(List Int)×(List Bool)) (fun n t=>Qfa N p0 p1 y1 k9 n t.1 t.2.1 t.2.2=some r) (fun ⟨y37,y38,y39⟩=>⟨mk 172 [(1,(.dat 1 (p1.map Qad))),(2,.ref 0 4 0 0),(5,.ref 1 3 0 0),(6,I y1),(7,I y37),(9,(.own 2 1 (0) ((p1.length:Int).toNat))),(11,(.own 3 1 (0) ((p1.length:Int).toNat)))],[(Qgg p0),Qf8,(.own 1 (y38.map Qad)),(Qjv y39)]⟩) (fun t h=>by rw[Qfa] at h;cases h) (fun n43 ih t h=>?_) N (y4,y5,List.replicate (p1.length:Int).toNat false) h
     obtain⟨y37,y38,y39⟩:=t
     rw[Qfa] at h
     skip
     refine wsq<|wxz ?_
     refine bfe h (fun hc44 h=>?_) fun hc44 h=>?_
     ·refine wft hc44<|Qaq<|thn<|Qap<|wxz ?_
      obtain⟨k46,hk_k46,h⟩:=jko h
      refine wjn (τ:=Int) (fun t=>k46 t=some r) (fun y45=>⟨mk 172 [(1,(.dat 1 (p1.map Qad))),(2,.ref 0 4 0 0),(5,.ref 1 3 0 0),(6,I y1),(7,I y37),(9,(.own 2 1 (0) ((p1.length:Int).toNat))),(11,(.own 3 1 (0) ((p1.length:Int).toNat))),(12,I y45)],[(Qgg p0),Qf8,(.own 1 (y38.map Qad)),(Qjv y39)]⟩) (fun y45 h=>?_) ?_
      ·subst hk_k46
       obtain⟨hi47,h⟩:=cko h
       obtain⟨hi47a,hi47b⟩:=Qea hi47
       obtain⟨x48,hg49,h⟩:=bno h
       refine wx tbk [(2,rb [(.tmp 102,(.own 3 1 (0) ((p1.length:Int).toNat))),(.tmp 103,I y45)] [(3,(Qjv y39))] (.ref 3 1 y45.toNat 0)),(3,⟨[(.tmp 104,(.ref 3 1 y45.toNat 0)),cb true],[(3,(Qjv y39))],.any,[(3,(.own 1 ((y39.set y45.toNat true:List Bool).map Qqv)))],false⟩)] ⟨aio rfl underlying185 ti4 (odt hi47a) (odt hi47b) (Nat.zero_add _),ast rfl ti4 (by rfl) (mgt Qqv hg49) (nle rfl) (Qhk Qqv rfl),tv⟩ ?_
       obtain⟨hi50,h⟩:=cko h
       obtain⟨hi50a,hi50b⟩:=Qea hi50
       obtain⟨x51,hg52,h⟩:=bno h
       obtain⟨hi53,h⟩:=cko h
       obtain⟨hi53a,hi53b⟩:=Qea hi53
       obtain⟨x54,hg55,h⟩:=bno h
       refine wx tbk [(2,rb [(.tmp 105,(.own 2 1 (0) ((p1.length:Int).toNat))),(.tmp 106,I y45)] [(2,(.own 1 (y38.map Qad)))] (.ref 2 1 y45.toNat 0)),(3,rb [(.tmp 107,(.ref 2 1 y45.toNat 0))] [(2,(.own 1 (y38.map Qad)))] (I x51)),(5,rb [(.tmp 105,(.own 2 1 (0) ((p1.length:Int).toNat))),(.tmp 106,I y45)] [(2,(.own 1 (y38.map Qad)))] (.ref 2 1 y45.toNat 0)),(6,⟨[(.tmp 110,(.ref 2 1 y45.toNat 0)),(.tmp 109,(I (w64 (x51+1))))],[(2,(.own 1 (y38.map Qad)))],.any,[(2,(.own 1 ((y38.set y45.toNat (w64 (x51+1)):List Int).map Qad)))],false⟩)] ⟨aio rfl underlying27 ti3 (odt hi50a) (odt hi50b) (Nat.zero_add _),ald rfl ti3 (by decide) (mgt Qad hg52) (nle rfl) rfl,aio rfl underlying27 ti3 (odt hi53a) (odt hi53b) (Nat.zero_add _),ast rfl ti3 (by rfl) (mgt Qad hg55) (nle rfl) (Qhk Qad rfl),tv⟩<|wxz1<|bln<|thn ?_
       exact arm (mto (n:=172) [(1,(.dat 1 (p1.map Qad))),(2,.ref 0 4 0 0),(5,.ref 1 3 0 0),(6,I y1),(7,(I (w64 (y37-1)))),(9,(.own 2 1 (0) ((p1.length:Int).toNat))),(11,(.own 3 1 (0) ((p1.length:Int).toNat)))] [0,1,2,3] [(Qgg p0),Qf8,(.own 1 ((y38.set y45.toNat (w64 (x51+1)):List Int).map Qad)),(.own 1 ((y39.set y45.toNat true:List Bool).map Qqv))] hφ0 (pc (rnd Qag) (prr (prr (pw (pw (pc (.rn (Qa7 rfl)) (pc (.rn (Qa7 rfl)) pn))))))) (qb (lcc (lcc ln)) (qb (lcc (lc rwl ln)) (qc (spr Qag) (qc (spr Qpq) qn))))) (ih (w64 (y37-1),y38.set y45.toNat (w64 (x51+1)),y39.set y45.toNat true) h)
      ·skip
       refine wxz<|Qap ?_
       refine wmr (mto (n:=172) (l':=[(1,(.dat 1 (p1.map Qad))),(2,.ref 0 4 0 0),(5,.ref 1 3 0 0),(6,I y1),(7,I y37),(9,(.own 2 1 (0) ((p1.length:Int).toNat))),(11,(.own 3 1 (0) ((p1.length:Int).toNat))),(12,(I ((-1)))),(13,I 0)]) (own':=[(Qgg p0),Qf8,(.own 1 (y38.map Qad)),(Qjv y39)]) [(1,(.dat 1 (p1.map Qad))),(2,.ref 0 4 0 0),(5,.ref 1 3 0 0),(6,I y1),(7,I y37),(9,(.own 2 1 (0) ((p1.length:Int).toNat))),(11,(.own 3 1 (0) ((p1.length:Int).toNat))),(12,(I ((-1)))),(13,I 0)] [0,1,2,3] [(Qgg p0),Qf8,(.own 1 (y38.map Qad)),(Qjv y39)] hφ0 (pc (rnd Qag) (prr (prr (pw (pw (pc (.rn (Qa7 rfl)) (pc (.rn (Qa7 rfl)) (pw (pw pn))))))))) (qb (lcc (lcc ln)) (qb (lcc (lc rwl ln)) (qc (spr Qag) (qc (spr Qpq) qn))))) ?_
       refine Qbv (τ:=Int×Int) (fun n t=>Qdc N p0 p1 y1 y39 k46 n t.1 t.2=some r) (fun ⟨y56,y57⟩=>⟨mk 172 [(1,(.dat 1 (p1.map Qad))),(2,.ref 0 4 0 0),(5,.ref 1 3 0 0),(6,I y1),(7,I y37),(9,(.own 2 1 (0) ((p1.length:Int).toNat))),(11,(.own 3 1 (0) ((p1.length:Int).toNat))),(12,I y56),(13,I y57)],[(Qgg p0),Qf8,(.own 1 (y38.map Qad)),(Qjv y39)]⟩) (fun t h=>by rw[Qdc] at h;cases h) (fun n60 ih t h=>?_) N ((-1),0) h
       obtain⟨y56,y57⟩:=t
       rw[Qdc] at h
       skip
       refine wsq<|wx tbk [(2,rp _ _)] ⟨alq 1 Qad p1 underlying27,tv⟩ ?_
       refine bfe h (fun hc61 h=>?_) fun hc61 h=>?_
       ·refine wft hc61<|Qaq<|thn<|wsq<|Qap ?_
        obtain⟨hi62,h⟩:=cko h
        obtain⟨hi62a,hi62b⟩:=Qea hi62
        obtain⟨x63,hg64,h⟩:=bno h
        refine hpre (A:=(Qy0 p1 y57 y39 x63)) ⟨aio rfl underlying185 ti4 (odt hi62a) (odt hi62b) (Nat.zero_add _),ald rfl ti4 (by decide) (mgt Qqv hg64) (nle rfl) rfl,tv⟩ fun q1_=>?_
        refine bfe h (fun hb65 h=>?_) fun hb65 h=>?_
        ·refine bfe h (fun hb66 h=>?_) fun hb66 h=>?_
         ·exact wxd tbk (hcat (Qy0 p1 y57 y39 x63) [(5,rp [(.tmp 75,(B ((!x63))))] (B true)),(8,rp [(.tmp 76,B true),(.tmp 78,(B ((decide (y56<0)))))] (B true))]) (hap q1_ ⟨asb hb65 (amv rfl),asb hb66 (ag_ (amv rfl)),tv⟩)<|wtr<|wxz1<|bln<|thn<|wxz1<|thn<|arm (mto (n:=172) [(1,(.dat 1 (p1.map Qad))),(2,.ref 0 4 0 0),(5,.ref 1 3 0 0),(6,I y1),(7,I y37),(9,(.own 2 1 (0) ((p1.length:Int).toNat))),(11,(.own 3 1 (0) ((p1.length:Int).toNat))),(12,I y57),(13,(I (w64 (y57+1))))] [0,1,2,3] [(Qgg p0),Qf8,(.own 1 (y38.map Qad)),(Qjv y39)] hφ0 (pc (rnd Qag) (prr (prr (pw (pw (pc (.rn (Qa7 rfl)) (pc (.rn (Qa7 rfl)) (pw (pw pn))))))))) (qb (lcc (lcc ln)) (qb (lcc (lc rwl ln)) (qc (spr Qag) (qc (spr Qpq) qn))))) (ih (y57,w64 (y57+1)) h)
         ·obtain⟨x67,hg68,h⟩:=bno h
          obtain⟨hi69,hj70⟩:=gsm hg68
          obtain⟨hz71,h⟩:=cko h
          obtain⟨x72,hg73,h⟩:=bno h
          obtain⟨hi74,hj75⟩:=gsm hg73
          obtain⟨hz76,h⟩:=cko h
          refine wxd tbk (hcat (Qy0 p1 y57 y39 x63) [(5,rp [(.tmp 75,(B ((!x63))))] (B true)),(8,rp [(.tmp 76,B true),(.tmp 78,(B ((decide (y56<0)))))] (B false)),(13,rp [(.tmp 79,B false),(.tmp 82,(.dat 1 (p1.map Qad))),(.tmp 83,I y57)] (.dptr (Qad x67) 0)),(17,rp [(.tmp 79,B false),(.tmp 86,(I (w64 (p0.Mass*x67)))),(.tmp 87,I y1)] (I ((w64 (p0.Mass*x67)).tmod y1))),(22,rp [(.tmp 79,B false),(.tmp 91,(.dat 1 (p1.map Qad))),(.tmp 92,I y56)] (.dptr (Qad x72) 0)),(26,rp [(.tmp 79,B false),(.tmp 95,(I (w64 (p0.Mass*x72)))),(.tmp 96,I y1)] (I ((w64 (p0.Mass*x72)).tmod y1)))]) (hap q1_ ⟨asb hb65 (amv rfl),asb hb66 (ag_ (amv rfl)),ag_ (aiq underlying27 ti3 Qad hi69 hj70),ag_ (Qw0 rfl (Qmy hz71)),ag_ (aiq underlying27 ti3 Qad hi74 hj75),ag_ (Qw0 rfl (Qmy hz76)),tv⟩) ?_
          refine bfe h (fun hc77 h=>?_) fun hc77 h=>?_
          ·exact wft hc77<|wxz1<|bln<|thn<|wxz1<|thn<|arm (mto (n:=172) [(1,(.dat 1 (p1.map Qad))),(2,.ref 0 4 0 0),(5,.ref 1 3 0 0),(6,I y1),(7,I y37),(9,(.own 2 1 (0) ((p1.length:Int).toNat))),(11,(.own 3 1 (0) ((p1.length:Int).toNat))),(12,I y57),(13,(I (w64 (y57+1))))] [0,1,2,3] [(Qgg p0),Qf8,(.own 1 (y38.map Qad)),(Qjv y39)] hφ0 (pc (rnd Qag) (prr (prr (pw (pw (pc (.rn (Qa7 rfl)) (pc (.rn (Qa7 rfl)) (pw (pw pn))))))))) (qb (lcc (lcc ln)) (qb (lcc (lc rwl ln)) (qc (spr Qag) (qc (spr Qpq) qn))))) (ih (y57,w64 (y57+1)) h)
          ·exact wfn hc77<|Qaq<|bln<|thn<|wxz1<|thn<|arm (mto (n:=172) [(1,(.dat 1 (p1.map Qad))),(2,.ref 0 4 0 0),(5,.ref 1 3 0 0),(6,I y1),(7,I y37),(9,(.own 2 1 (0) ((p1.length:Int).toNat))),(11,(.own 3 1 (0) ((p1.length:Int).toNat))),(12,I y56),(13,(I (w64 (y57+1))))] [0,1,2,3] [(Qgg p0),Qf8,(.own 1 (y38.map Qad)),(Qjv y39)] hφ0 (pc (rnd Qag) (prr (prr (pw (pw (pc (.rn (Qa7 rfl)) (pc (.rn (Qa7 rfl)) (pw (pw pn))))))))) (qb (lcc (lcc ln)) (qb (lcc (lc rwl ln)) (qc (spr Qag) (qc (spr Qpq) qn))))) (ih (y56,w64 (y57+1)) h)
        ·exact wxd tbk (hcat (Qy0 p1 y57 y39 x63) [(5,rp [(.tmp 75,(B ((!x63))))] (B false))]) (hap q1_ ⟨asb hb65 (amv rfl),tv⟩)<|wfa<|Qaq<|bln<|thn<|wxz1<|thn<|arm (mto (n:=172) [(1,(.dat 1 (p1.map Qad))),(2,.ref 0 4 0 0),(5,.ref 1 3 0 0),(6,I y1),(7,I y37),(9,(.own 2 1 (0) ((p1.length:Int).toNat))),(11,(.own 3 1 (0) ((p1.length:Int).toNat))),(12,I y56),(13,(I (w64 (y57+1))))] [0,1,2,3] [(Qgg p0),Qf8,(.own 1 (y38.map Qad)),(Qjv y39)] hφ0 (pc (rnd Qag) (prr (prr (pw (pw (pc (.rn (Qa7 rfl)) (pc (.rn (Qa7 rfl)) (pw (pw pn))))))))) (qb (lcc (lcc ln)) (qb (lcc (lc rwl ln)) (qc (spr Qag) (qc (spr Qpq) qn))))) (ih (y56,w64 (y57+1)) h)
       ·exact wfn hc61<|Qbg<|Qay<|Qay<|Qbf rfl<|thn<|⟨(y56),h,(mto (n:=172) [(1,(.dat 1 (p1.map Qad))),(2,.ref 0 4 0 0),(5,.ref 1 3 0 0),(6,I y1),(7,I y37),(9,(.own 2 1 (0) ((p1.length:Int).toNat))),(11,(.own 3 1 (0) ((p1.length:Int).toNat))),(12,I y56)] [0,1,2,3] [(Qgg p0),Qf8,(.own 1 (y38.map Qad)),(Qjv y39)] hφ0 (pc (rnd Qag) (prr (prr (pw (pw (pc (.rn (Qa7 rfl)) (pc (.rn (Qa7 rfl)) (pw pn)))))))) (qb (lcc (lcc ln)) (qb (lcc (lc rwl ln)) (qc (spr Qag) (qc (spr Qpq) qn)))))⟩
     ·exact wfn hc44<|Qbg<|Qay<|Qay<|Qbf rfl<|thn<|⟨(y38),h,(mto (n:=172) [(1,(.dat 1 (p1.map Qad))),(2,.ref 0 4 0 0),(5,.ref 1 3 0 0),(9,(.own 2 1 (0) ((p1.length:Int).toNat)))] [0,1,2] [(Qgg p0),Qf8,(.own 1 (y38.map Qad))] hφ0 (pc (rnd Qag) (prr (prr (pc (.rn (Qa7 rfl)) pn)))) (qb (lcc (lcc ln)) (qb (lcc (lc rwl ln)) (qc (spr Qag) qn))))⟩
   ·skip
    refine wxz<|Qap ?_
    refine wmr (mto (n:=172) (l':=[(1,(.dat 1 (p1.map Qad))),(2,.ref 0 4 0 0),(5,.ref 1 3 0 0),(6,I y1),(7,I p0.Mass),(9,(.own 2 1 (0) ((p1.length:Int).toNat))),(10,I 0)]) (own':=[(Qgg p0),Qf8,(.own 1 (((List.replicate (p1.length:Int).toNat 0):List Int).map Qad))]) [(1,(.dat 1 (p1.map Qad))),(2,.ref 0 4 0 0),(5,.ref 1 3 0 0),(6,I y1),(7,I p0.Mass),(9,(.own 2 1 (0) ((p1.length:Int).toNat))),(10,I 0)] [0,1,2] [(Qgg p0),Qf8,(Zkt p1)] hφ0 (pc (rnd Qag) (prr (prr (pw (pw (pc (.rn (Qa7 rfl)) (pw pn))))))) (qb (lcc (lcc ln)) (qb (lcc (lc rwl ln)) (qc (spr Qag) qn)))) ?_
    refine Qbv (τ:=Int×Int×(List Int)) (fun n t=>Qe9 N p0 p1 y1 k6 n t.1 t.2.1 t.2.2=some r) (fun ⟨y78,y79,y80⟩=>⟨mk 172 [(1,(.dat 1 (p1.map Qad))),(2,.ref 0 4 0 0),(5,.ref 1 3 0 0),(6,I y1),(7,I y78),(9,(.own 2 1 (0) ((p1.length:Int).toNat))),(10,I y79)],[(Qgg p0),Qf8,(.own 1 (y80.map Qad))]⟩) (fun t h=>by rw[Qe9] at h;cases h) (fun n84 ih t h=>?_) N (p0.Mass,0,List.replicate (p1.length:Int).toNat 0) h
    obtain⟨y78,y79,y80⟩:=t
    rw[Qe9] at h
    skip
    refine wsq<|wx tbk [(2,rp _ _)] ⟨alq 1 Qad p1 underlying27,tv⟩ ?_
    refine bfe h (fun hc85 h=>?_) fun hc85 h=>?_
    ·refine wft hc85<|Qaq<|thn<|wsq<|Qap ?_
     obtain⟨x86,hg87,h⟩:=bno h
     obtain⟨hi88,hj89⟩:=gsm hg87
     obtain⟨hz90,h⟩:=cko h
     obtain⟨hi91,h⟩:=cko h
     obtain⟨hi91a,hi91b⟩:=Qea hi91
     obtain⟨x92,hg93,h⟩:=bno h
     refine wxd tbk [(6,rp _ _),(10,rp [(.tmp 50,(I (w64 (p0.Mass*x86)))),(.tmp 51,I y1)] (I (w64 ((w64 (p0.Mass*x86)).tdiv y1)))),(11,rb [(.tmp 42,(.own 2 1 (0) ((p1.length:Int).toNat))),(.tmp 43,I y79)] [(2,(.own 1 (y80.map Qad)))] (.ref 2 1 y79.toNat 0)),(12,⟨[(.tmp 53,(.ref 2 1 y79.toNat 0)),(.tmp 52,(I (w64 ((w64 (p0.Mass*x86)).tdiv y1))))],[(2,(.own 1 (y80.map Qad)))],.any,[(2,(Qy1 y80 y79 p0 x86 y1))],false⟩)] ⟨aiq underlying27 ti3 Qad hi88 hj89,Qlu rfl (Qmy hz90),aio rfl underlying27 ti3 (odt hi91a) (odt hi91b) (Nat.zero_add _),ast rfl ti3 (by rfl) (mgt Qad hg93) (nle rfl) (Qhk Qad rfl),tv⟩ ?_
     obtain⟨hi94,h⟩:=cko h
     obtain⟨hi94a,hi94b⟩:=Qea hi94
     obtain⟨x95,hg96,h⟩:=bno h
     refine wx1 tbk [(3,rb [(.tmp 55,(.own 2 1 (0) ((p1.length:Int).toNat))),(.tmp 56,I y79)] [(2,(Qy1 y80 y79 p0 x86 y1))] (.ref 2 1 y79.toNat 0)),(4,rb [(.tmp 57,(.ref 2 1 y79.toNat 0))] [(2,(Qy1 y80 y79 p0 x86 y1))] (I x95))] ⟨aio rfl underlying27 ti3 (odt hi94a) (odt hi94b) (Nat.zero_add _),ald rfl ti3 (by decide) (mgt Qad hg96) (nle rfl) rfl,tv⟩<|bln<|thn<|wxz1<|thn ?_
     exact arm (mto (n:=172) [(1,(.dat 1 (p1.map Qad))),(2,.ref 0 4 0 0),(5,.ref 1 3 0 0),(6,I y1),(7,(I (w64 (y78-x95)))),(9,(.own 2 1 (0) ((p1.length:Int).toNat))),(10,(I (w64 (y79+1))))] [0,1,2] [(Qgg p0),Qf8,(Qy1 y80 y79 p0 x86 y1)] hφ0 (pc (rnd Qag) (prr (prr (pw (pw (pc (.rn (Qa7 rfl)) (pw pn))))))) (qb (lcc (lcc ln)) (qb (lcc (lc rwl ln)) (qc (spr Qag) qn)))) (ih (w64 (y78-x95),w64 (y79+1),y80.set y79.toNat (w64 ((w64 (p0.Mass*x86)).tdiv y1))) h)
    ·exact wfn hc85<|Qbg<|Qay<|Qay<|Qbf rfl<|thn<|⟨(y78,y80),h,(mto (n:=172) [(1,(.dat 1 (p1.map Qad))),(2,.ref 0 4 0 0),(5,.ref 1 3 0 0),(6,I y1),(7,I y78),(9,(.own 2 1 (0) ((p1.length:Int).toNat)))] [0,1,2] [(Qgg p0),Qf8,(.own 1 (y80.map Qad))] hφ0 (pc (rnd Qag) (prr (prr (pw (pw (pc (.rn (Qa7 rfl)) pn)))))) (qb (lcc (lcc ln)) (qb (lcc (lc rwl ln)) (qc (spr Qag) qn))))⟩
  ·skip
   refine wxz<|Qap ?_
   refine wmr (mto (n:=172) (l':=[(1,(.dat 1 (p1.map Qad))),(2,.ref 0 4 0 0),(5,.ref 1 3 0 0),(6,I 0),(7,I p0.Mass),(8,I 0)]) (own':=[(Qgg p0),Qf8]) [(1,(.dat 1 (p1.map Qad))),(2,.ref 0 4 0 0),(5,.ref 1 3 0 0),(6,I 0),(7,I p0.Mass),(8,I 0)] [0,1] [(Qgg p0),Qf8] hφ0 (pc (rnd Qag) (prr (prr (pw (pw (pw pn)))))) (qb (lcc (lcc ln)) (qb (lcc (lc rwl ln)) qn))) ?_
   refine Qbv (τ:=Int×Int) (fun n t=>Qe8 N p1 k2 n t.1 t.2=some r) (fun ⟨y97,y98⟩=>⟨mk 172 [(1,(.dat 1 (p1.map Qad))),(2,.ref 0 4 0 0),(5,.ref 1 3 0 0),(6,I y97),(7,I p0.Mass),(8,I y98)],[(Qgg p0),Qf8]⟩) (fun t h=>by rw[Qe8] at h;cases h) (fun n101 ih t h=>?_) N (0,0) h
   obtain⟨y97,y98⟩:=t
   rw[Qe8] at h
   skip
   refine wsq<|wx tbk [(2,rp _ _)] ⟨alq 1 Qad p1 underlying27,tv⟩ ?_
   refine bfe h (fun hc102 h=>?_) fun hc102 h=>?_
   ·refine wft hc102<|Qaq<|thn<|wsq<|Qap ?_
    obtain⟨x103,hg104,h⟩:=bno h
    obtain⟨hi105,hj106⟩:=gsm hg104
    exact wx1 tbk [(3,rp _ _)] ⟨aiq underlying27 ti3 Qad hi105 hj106,tv⟩<|bln<|thn<|wxz1<|thn<|arm (mto (n:=172) [(1,(.dat 1 (p1.map Qad))),(2,.ref 0 4 0 0),(5,.ref 1 3 0 0),(6,(I (w64 (y97+x103)))),(7,I p0.Mass),(8,(I (w64 (y98+1))))] [0,1] [(Qgg p0),Qf8] hφ0 (pc (rnd Qag) (prr (prr (pw (pw (pw pn)))))) (qb (lcc (lcc ln)) (qb (lcc (lc rwl ln)) qn))) (ih (w64 (y97+x103),w64 (y98+1)) h)
   ·exact wfn hc102<|Qbg<|Qay<|Qay<|Qbf rfl<|thn<|⟨(y97),h,(mto (n:=172) [(1,(.dat 1 (p1.map Qad))),(2,.ref 0 4 0 0),(5,.ref 1 3 0 0),(6,I y97),(7,I p0.Mass)] [0,1] [(Qgg p0),Qf8] hφ0 (pc (rnd Qag) (prr (prr (pw (pw pn))))) (qb (lcc (lcc ln)) (qb (lcc (lc rwl ln)) qn)))⟩
def Qd7 (N:Nat) (p0:List Qaa) (k1:Unit→Option Bool):Nat→Int→Option Bool
  |0,_=>none
  |n4+1,y2=>
    bif (decide (y2<(p0.length:Int))) then
     (getI p0 y2).bind fun x6=>
     (Qhc N x6).bind fun x11=>
     bif (!x11) then
      some false
     else
      Qd7 N p0 k1 n4 (w64 (y2+1))
    else
     k1 ()
def Qi9 (N:Nat) (p0:List Qaa):Option Bool:=
  Qbi (fun _=>
    some true) fun k1:Unit→Option Bool=>
  Qd7 N p0 k1 N 0
def Q6e (p0:List Qaa):AV:=.dat 4 (p0.map Qac)
theorem Qtf (N:Nat) (p0:List Qaa) (r:Bool) (h:Qi9 N p0=some r):Spec prog 98 [(.dat 4 (p0.map Qac))] [] (B r) []:=by
  refine Qak func98 rfl 0 (nle rfl) (fun X φ0 w0 hφ0 hd0=>?_)
  unfold Qi9 at h
  refine wxz ?_
  obtain⟨k1,hk_k1,h⟩:=jko h
  refine wjn (τ:=Unit) (fun t=>k1 t=some r) (fun _=>⟨mk 16 [],[]⟩) (fun t h=>?_) ?_
  ·subst hk_k1
   exact wxz<|Qah<|frb h
  ·skip
   refine wxz<|Qap ?_
   refine wmr (mto (n:=16) (l':=[(0,(Q6e p0)),(3,I 0)]) (own':=[]) [(0,(Q6e p0)),(3,I 0)] [] [] hφ0 (pc (rnd Qaf) (pw pn)) qn) ?_
   refine Qbv (τ:=Int) (fun n t=>Qd7 N p0 k1 n t=some r) (fun y2=>⟨mk 16 [(0,(Q6e p0)),(3,I y2)],[]⟩) (fun t h=>by rw[Qd7] at h;cases h) (fun n4 ih y2 h=>?_) N (0) h
   rw[Qd7] at h
   skip
   refine wsq<|wx tbk [(2,rp _ _)] ⟨alq 4 Qac p0 underlying28,tv⟩ ?_
   refine bfe h (fun hc5 h=>?_) fun hc5 h=>?_
   ·refine wft hc5<|Qaq<|thn<|wsq<|Qap ?_
    obtain⟨x6,hg7,h⟩:=bno h
    obtain⟨hi8,hj9⟩:=gsm hg7
    obtain⟨x11,hf10,h⟩:=bno h
    refine wx tbk [(2,rp _ _),(4,rp _ _)] ⟨aiq underlying28 ti89 Qac hi8 hj9,apv Zip (Qpn N x6 _ hf10) (nlc (NLt.agg _ (nlcc (nlcc nl0))) nl0) nll,tv⟩ ?_
    refine bfe h (fun hc12 h=>?_) fun hc12 h=>?_
    ·exact wft hc12<|wxz<|Qah<|Qau<|Qaj<|Qaj<|Qau<|Qaj<|frb h
    ·exact wfn hc12<|Qaq<|bln<|thn<|wxz1<|thn<|arm (mto (n:=16) [(0,(Q6e p0)),(3,(I (w64 (y2+1))))] [] [] hφ0 (pc (rnd Qaf) (pw pn)) qn) (ih (w64 (y2+1)) h)
   ·exact wfn hc5<|Qbg<|Qay<|Qay<|Qbf rfl<|thn<|⟨(),h,(mto (n:=16) [] [] [] hφ0 pn qn)⟩
def Qec (N:Nat) (p0:GNet) (p1:Int) (k2:Int→Option Int):Nat→Int→Int→Option Int
  |0,_,_=>none
  |n7+1,y3,y4=>
    bif (decide (y4<(p0.Elements.length:Int))) then
     (getI p0.Elements y4).bind fun x9=>
     bif (x9.Kind==p1) then
      Qec N p0 p1 k2 n7 (w64 (y3+1)) (w64 (y4+1))
     else
      Qec N p0 p1 k2 n7 y3 (w64 (y4+1))
    else
     k2 (y3)
def Qlm (N:Nat) (p0:GNet) (p1:Int):Option Int:=
  Qbi (fun y1=>
    some y1) fun k2:Int→Option Int=>
  Qec N p0 p1 k2 N 0 0
def Zqj (p0:GNet):AV:=.dat 7 (p0.Elements.map Qal)
def Q1f (p0:GNet):Slot:=.own 2 [[(.dat 5 (p0.Table.map Qav)),(Zqj p0)]]
theorem Qvv (N:Nat) (p0:GNet) (p1 r:Int) (h:Qlm N p0 p1=some r):Spec prog 29 [(.agg (Qgx p0)),(K .u8 p1)] [] (I r) []:=by
  refine Qak func29 rfl 0 (nle rfl) (fun X φ0 w0 hφ0 hd0=>?_)
  unfold Qlm at h
  refine wxz<|wxz ?_
  obtain⟨k2,hk_k2,h⟩:=jko h
  refine wjn (τ:=Int) (fun t=>k2 t=some r) (fun y1=>⟨mk 25 [(5,I y1)],[]⟩) (fun y1 h=>?_) ?_
  ·subst hk_k2
   refine wxz<|Qah ?_
   obtain rfl:=osi h
   exact fend ⟨[I y1],⟨rot,tv⟩,rfl⟩ nll
  ·skip
   refine wxz<|Qap ?_
   refine wmr (mto (n:=25) (l':=[(1,(K .u8 p1)),(2,.ref 0 2 0 0),(5,I 0),(6,I 0)]) (own':=[(Q1f p0)]) [(1,(K .u8 p1)),(2,.ref 0 2 0 0),(5,I 0),(6,I 0)] [0] [(Q1f p0)] hφ0 (pw (prr (pw (pw pn)))) (qb (lc (rnd Qao) (lc (rnd Qab) ln)) qn)) ?_
   refine Qbv (τ:=Int×Int) (fun n t=>Qec N p0 p1 k2 n t.1 t.2=some r) (fun ⟨y3,y4⟩=>⟨mk 25 [(1,(K .u8 p1)),(2,.ref 0 2 0 0),(5,I y3),(6,I y4)],[(Q1f p0)]⟩) (fun t h=>by rw[Qec] at h;cases h) (fun n7 ih t h=>?_) N (0,0) h
   obtain⟨y3,y4⟩:=t
   rw[Qec] at h
   skip
   refine wsq<|wx tbk [(3,rp _ _)] ⟨alq 7 Qal p0.Elements underlying24,tv⟩ ?_
   refine bfe h (fun hc8 h=>?_) fun hc8 h=>?_
   ·refine wft hc8<|Qaq<|thn<|wsq<|Qap ?_
    obtain⟨x9,hg10,h⟩:=bno h
    obtain⟨hi11,hj12⟩:=gsm hg10
    refine wx tbk [(3,rp _ _)] ⟨aiq underlying24 ti59 Qal hi11 hj12,tv⟩ ?_
    refine bfe h (fun hc13 h=>?_) fun hc13 h=>?_
    ·exact wft hc13<|wxz1<|bln<|thn<|wxz1<|thn<|arm (mto (n:=25) [(1,(K .u8 p1)),(2,.ref 0 2 0 0),(5,(I (w64 (y3+1)))),(6,(I (w64 (y4+1))))] [0] [(Q1f p0)] hφ0 (pw (prr (pw (pw pn)))) (qb (lc (rnd Qao) (lc (rnd Qab) ln)) qn)) (ih (w64 (y3+1),w64 (y4+1)) h)
    ·exact wfn hc13<|Qaq<|bln<|thn<|wxz1<|thn<|arm (mto (n:=25) [(1,(K .u8 p1)),(2,.ref 0 2 0 0),(5,I y3),(6,(I (w64 (y4+1))))] [0] [(Q1f p0)] hφ0 (pw (prr (pw (pw pn)))) (qb (lc (rnd Qao) (lc (rnd Qab) ln)) qn)) (ih (y3,w64 (y4+1)) h)
   ·exact wfn hc8<|Qbg<|Qay<|Qay<|Qbf rfl<|thn<|⟨(y3),h,(mto (n:=25) [(5,I y3)] [] [] hφ0 (pw pn) qn)⟩
def Qib (N:Nat) (p0:GNet) (p1:List Qaa):Option Int:=
  Qbi (fun _=>
    (Qiz N p1).bind fun x3=>
    bif (decide (x3.Mass>1000000)) then
     some 3
    else
     bif (decide (x3.Gas>1000000000)) then
      some 3
     else
      some 0) fun k1:Unit→Option Int=>
  (Qlm N p0 1).bind fun x7=>
  bif ((p1.length:Int) != x7) then
   some 1
  else
   (Qi9 N p1).bind fun x10=>
   bif (!x10) then
    some 1
   else
    k1 ()
def Q6d (p1:List Qaa):AV:=.dat 4 (p1.map Qac)
def Zqi (p0:GNet):AV:=.dat 7 (p0.Elements.map Qal)
def Zb5 (p1:List Qaa) (p0:GNet) (x7:Int):List (Nat×Rec):=[(1,rp [((.tmp 6),(Q6d p1))] (I ((p1.length:Int)))),(3,rp [fu 29,((.tmp 8),(.agg [(.dat 5 (p0.Table.map Qav)),(Zqi p0)])),((.const (.int .u8 1)),(K .u8 (1)))] (I x7))]
theorem Qq9 (N:Nat) (p0:GNet) (p1:List Qaa) (r:Int) (h:Qib N p0 p1=some r):Spec prog 61 [(.agg (Qgx p0)),(.dat 4 (p1.map Qac))] [] (I r) []:=by
  refine Qak func61 rfl 0 (nle rfl) (fun X φ0 w0 hφ0 hd0=>?_)
  unfold Qib at h
  refine wxz ?_
  obtain⟨k1,hk_k1,h⟩:=jko h
  refine wjn (τ:=Unit) (fun t=>k1 t=some r) (fun _=>⟨mk 26 [(1,(Q6d p1))],[]⟩) (fun t h=>?_) ?_
  ·subst hk_k1
   obtain⟨x3,hf2,h⟩:=bno h
   refine wx tbk [(1,rp _ _)] ⟨apv Q4r (Qoh N p1 _ hf2) (nlc (nld Qaf _) nl0) (NLt.agg _ (nlcc (nlcc nl0))),tv⟩<|wsq ?_
   refine bfe h (fun hb4 h=>?_) fun hb4 h=>?_
   ·refine wx tbk [(3,rp [(.tmp 20,(B ((decide (x3.Mass>1000000)))))] (B true))] ⟨asb hb4 (amv rfl),tv⟩<|wtr<|wxz<|Qah<|Qaj ?_
    obtain rfl:=osi h
    exact fend ⟨[I 3],⟨rot,tv⟩,rfl⟩ nll
   ·refine wx tbk [(3,rp [(.tmp 20,(B ((decide (x3.Mass>1000000)))))] (B false))] ⟨asb hb4 (amv rfl),tv⟩ ?_
    refine bfe h (fun hc5 h=>?_) fun hc5 h=>?_
    ·refine wft hc5<|wxz<|Qah<|Qaj ?_
     obtain rfl:=osi h
     exact fend ⟨[I 3],⟨rot,tv⟩,rfl⟩ nll
    ·refine wfn hc5<|Qaq<|thn<|wxz<|Qah ?_
     obtain rfl:=osi h
     exact fend ⟨[I 0],⟨rot,tv⟩,rfl⟩ nll
  ·skip
   obtain⟨x7,hf6,h⟩:=bno h
   refine hpre (A:=(Zb5 p1 p0 x7)) ⟨alq 4 Qac p1 underlying28,apv Zoc (Qvv N p0 1 _ hf6) (nlc (NLt.agg _ (nlc (nld Qao _) (nlc (nld Qab _) nl0))) (nlc nll nl0)) nll,tv⟩ fun q1_=>?_
   refine bfe h (fun hb8 h=>?_) fun hb8 h=>?_
   ·refine wx tbk (hcat (Zb5 p1 p0 x7) [(5,rp [(.tmp 10,(B (((p1.length:Int) != x7))))] (B true))]) (hap q1_ ⟨asb hb8 (amv rfl),tv⟩)<|wtr<|wxz<|Qah<|Qaj ?_
    obtain rfl:=osi h
    exact fend ⟨[I 1],⟨rot,tv⟩,rfl⟩ nll
   ·obtain⟨x10,hf9,h⟩:=bno h
    refine wx tbk (hcat (Zb5 p1 p0 x7) [(5,rp [(.tmp 10,(B (((p1.length:Int) != x7))))] (B false)),(7,rp [(.tmp 11,B false),fu 98,(.tmp 12,(Q6d p1))] (B x10))]) (hap q1_ ⟨asb hb8 (amv rfl),ag_ (apv Znk (Qtf N p1 _ hf9) (nlc (nld Qaf _) nl0) nll),tv⟩) ?_
    refine bfe h (fun hc11 h=>?_) fun hc11 h=>?_
    ·refine wft hc11<|wxz<|Qah<|Qaj ?_
     obtain rfl:=osi h
     exact fend ⟨[I 1],⟨rot,tv⟩,rfl⟩ nll
    ·exact wfn hc11<|Qaq<|thn<|⟨(),h,(mto (n:=26) [(1,(Q6d p1))] [] [] hφ0 (pc (rnd Qaf) pn) qn)⟩
def Qgl (N:Nat) (x26:Qam) (k40:(List Qaa)×(List (List Qaa))×(List Qa9)×(List Int)→Option (Qfg×Int×Int)):Nat→(List Qaa)→Int→(List (List Qaa))→(List Qa9)→(List Int)→Option (Qfg×Int×Int)
  |0,_,_,_,_,_=>none
  |n129+1,y119,y120,y121,y122,y123=>
    bif (decide (y120<(x26.From.length:Int))) then
     chk (decide ((([]:List Qaa).length+y119.length)*32≤140737488355328))<|
     (getI x26.From y120).bind fun x132=>
     (getI y121 x132.Element).bind fun x136=>
     (getI x136 x132.Outlet).bind fun x140=>
     chk (decide (1≤([x140]).length))<|
     chk (decide (((([]:List Qaa)++y119).length+(([x140]).take 1).length)*32≤140737488355328))<|
     Qgl N x26 k40 n129 ((([]:List Qaa)++y119)++(([x140]).take 1)) (w64 (y120+1)) y121 y122 y123
    else
     k40 (y119,y121,y122,y123)
def Qgm (N:Nat) (p0:GNet) (p1:List Int) (p2:List Qaa) (k5:Int×(List (List Qaa))×(List Qa9)×(List Int)→Option (Qfg×Int×Int)):Nat→Int→Int→Int→(List (List Qaa))→(List Qa9)→(List Int)→Option (Qfg×Int×Int)
  |0,_,_,_,_,_,_=>none
  |n18+1,y6,y7,y8,y9,y10,y11=>
    bif (decide (y8<(p0.Elements.length:Int))) then
     Qbi (fun ⟨y20,y21,y22,y23,y24⟩=>
       Qgm N p0 p1 p2 k5 n18 y20 y21 (w64 (y8+1)) y22 y23 y24) fun k25:Int×Int×(List (List Qaa))×(List Qa9)×(List Int)→Option (Qfg×Int×Int)=>
     (getI p0.Elements y8).bind fun x26=>
     Qbi (fun ⟨y30,y31,y32,y33,y34⟩=>
       Qbi (fun ⟨y36,y37,y38,y39⟩=>
         (Qiz N y36).bind fun x42=>
         (getI p1 y8).bind fun x43=>
         (Qlk N x26 x43).bind fun x48=>
         bif (decide (x42.Mass>x48)) then
          some ((⟨[],[],[]⟩:Qfg),0,y8)
         else
          Qbi (fun ⟨y50,y51,y52,y53,y54⟩=>
            Qbi (fun ⟨y56,y57,y58,y59,y60,y61,y62,y63,y64⟩=>
              Qbi (fun ⟨y66,y67,y68,y69,y70,y71,y72,y73⟩=>
                chk (decide ((y67.length+([y66]).length)*24≤140737488355328))<|
                chk (decide (1≤([(⟨y70,y71,y72,y73⟩:Qa9)]).length))<|
                chk (decide ((y68.length+(([(⟨y70,y71,y72,y73⟩:Qa9)]).take 1).length)*32≤140737488355328))<|
                chk (decide ((y69.length+([w64 (x43+y73)]).length)*8≤140737488355328))<|
                k25 (y56,y30,y67++([y66]),y68++(([(⟨y70,y71,y72,y73⟩:Qa9)]).take 1),y69++([w64 (x43+y73)]))) fun k74:(List Qaa)×(List (List Qaa))×(List Qa9)×(List Int)×Int×Int×Int×Int→Option (Qfg×Int×Int)=>
              bif (x26.Kind==5) then
               (Qip N x42 x26.Weights).bind fun x81=>
               k74 (x81.1,y58,y59,y60,x81.2.Heat,x81.2.Silica,x81.2.Gas,0)
              else
               k74 (y57,y58,y59,y60,y61,y62,y63,y64)) fun k65:Int×(List Qaa)×(List (List Qaa))×(List Qa9)×(List Int)×Int×Int×Int×Int→Option (Qfg×Int×Int)=>
            bif (x26.Kind==4) then
             (getI p0.Table x26.Level).bind fun x83=>
             (Qjk N x83 x42).bind fun x88=>
             Qbi (fun ⟨y89,y90,y91,y92,y93,y94,y95⟩=>
               (some (w64 (y6+x88.Steam.Mass))).bind fun x97=>
               k65 (x97,y89,y90,y91,y92,y93,y94,y95,x88.Scale)) fun k96:(List Qaa)×(List (List Qaa))×(List Qa9)×(List Int)×Int×Int×Int→Option (Qfg×Int×Int)=>
             bif (decide (x26.Amount>0)) then
              (Qip N (⟨x88.Water.Mass,x88.Water.Heat,x88.Water.Silica,x88.Water.Gas⟩:Qaa) ([w64 (1000-x26.Amount),x26.Amount])).bind fun x101=>
              (getI x101.1 1).bind fun x102=>
              (Qiz N ([(⟨x88.Steam.Mass,x88.Steam.Heat,x88.Steam.Silica,x88.Steam.Gas⟩:Qaa),x102])).bind fun x107=>
              (getI x101.1 0).bind fun x108=>
              k96 ([x107,x108],y50,y51,y52,x101.2.Heat,x101.2.Silica,x101.2.Gas)
             else
              k96 ([(⟨x88.Steam.Mass,x88.Steam.Heat,x88.Steam.Silica,x88.Steam.Gas⟩:Qaa),(⟨x88.Water.Mass,x88.Water.Heat,x88.Water.Silica,x88.Water.Gas⟩:Qaa)],y50,y51,y52,y54,0,0)
            else
             chk (decide (1≤y53.length))<|
             k65 (y6,y53.take 1,y50,y51,y52,y54,0,0,0)) fun k55:(List (List Qaa))×(List Qa9)×(List Int)×(List Qaa)×Int→Option (Qfg×Int×Int)=>
          bif (x26.Kind==3) then
           (some (w64 (x42.Heat-(if x42.Heat<x26.Amount then x42.Heat else x26.Amount)))).bind fun x114=>
           chk (decide (0≤0)&&decide ((0:Int).toNat<1))<|
           (([x42])[(0:Int).toNat]?).bind fun x117=>
           k55 (y37,y38,y39,([x42]).set ((0:Int).toNat) (⟨x117.Mass,x114,x117.Silica,x117.Gas⟩:Qaa),(if x42.Heat<x26.Amount then x42.Heat else x26.Amount))
          else
           k55 (y37,y38,y39,[x42],0)) fun k40:(List Qaa)×(List (List Qaa))×(List Qa9)×(List Int)→Option (Qfg×Int×Int)=>
       Qgl N x26 k40 N y31 0 y32 y33 y34) fun k35:Int×(List Qaa)×(List (List Qaa))×(List Qa9)×(List Int)→Option (Qfg×Int×Int)=>
     bif (x26.Kind==1) then
      chk (decide (0≤y7)&&decide (y7≤w64 (y7+1))&&decide (w64 (y7+1)≤(p2.length:Int)))<|
      k35 (w64 (y7+1),(p2.drop y7.toNat).take ((w64 (y7+1)).toNat-y7.toNat),y9,y10,y11)
     else
      k35 (y7,[],y9,y10,y11)
    else
     k5 (y6,y9,y10,y11)
def Qn0 (N:Nat) (p0:GNet) (p1:List Int) (p2:List Qaa):Option (Qfg×Int×Int):=
  Qbi (fun ⟨y1,y2,y3,y4⟩=>
    some ((⟨y2,y3,y4⟩:Qfg),y1,(-1))) fun k5:Int×(List (List Qaa))×(List Qa9)×(List Int)→Option (Qfg×Int×Int)=>
  Qgm N p0 p1 p2 k5 N 0 0 0 ([]) ([]) ([])
def Qgw:Slot:=.own 3 [[nilS,nilS,nilS]]
def Qyz:AV:=.acc 3 28 1 (([]:List (List Qaa)).map Qae)
def Q6b:AV:=.acc 4 90 4 (([]:List Qa9).map Qax)
def Qex (p2:List Qaa):AV:=.dat 4 (p2.map Qac)
def Zqf (p0:GNet):AV:=.dat 7 (p0.Elements.map Qal)
def Qhn (p0:GNet):Slot:=.own 2 [[(.dat 5 (p0.Table.map Qav)),(Zqf p0)]]
def Qr1 (y9:List (List Qaa)) (y10:List Qa9) (y11:List Int):Slot:=.own 3 [[(.acc 3 28 1 (y9.map Qae)),(.acc 4 90 4 (y10.map Qax)),(.acc 5 3 1 (y11.map Qad))]]
def Zb4 (x26:Qam):AV:=.dat 2 (x26.From.map Qaw)
def Qey (x26:Qam):Slot:=.own 7 [[(K .u8 x26.Kind),(Zb4 x26),(I x26.Level),(I x26.Amount),(I x26.Wide),(I x26.Narrow),(.dat 1 (x26.Weights.map Qad))]]
def Zb1 (x42:Qaa):AV:=.agg [(I x42.Mass),(I x42.Heat),(I x42.Silica),(I x42.Gas)]
def Qr0 (x42:Qaa):Slot:=.own 4 (([x42]:List Qaa).map Qac)
def Qpd (y50:List (List Qaa)) (y51:List Qa9) (y52:List Int):Slot:=.own 3 [[(.acc 7 28 1 (y50.map Qae)),(.acc 8 90 4 (y51.map Qax)),(.acc 9 3 1 (y52.map Qad))]]
def Qi8 (x42:Qaa):Slot:=.own 4 [[(I x42.Mass),(I x42.Heat),(I x42.Silica),(I x42.Gas)]]
def Qrz (y54:Int):Slot:=.own 4 [[(I y54),(I (0)),(I (0)),(I (0))]]
def Q1d (y67:List (List Qaa)) (y66:List Qaa):AV:=.acc 7 28 1 ((y67++([y66]):List (List Qaa)).map Qae)
def Q1c (y68:List Qa9) (y70 y71:Int) (y72 y73:Int):AV:=.acc 9 90 4 ((y68++(([(⟨y70,y71,y72,y73⟩:Qa9)]).take 1):List Qa9).map Qax)
def Qry (x88:Qfh):AV:=.agg [(I x88.Steam.Mass),(I x88.Steam.Heat),(I x88.Steam.Silica),(I x88.Steam.Gas)]
def Q1b (x88:Qfh):AV:=.agg [(I x88.Water.Mass),(I x88.Water.Heat),(I x88.Water.Silica),(I x88.Water.Gas)]
def Q1a (x88:Qfh):AV:=.dat 4 (([(⟨x88.Steam.Mass,x88.Steam.Heat,x88.Steam.Silica,x88.Steam.Gas⟩:Qaa),(⟨x88.Water.Mass,x88.Water.Heat,x88.Water.Silica,x88.Water.Gas⟩:Qaa)]:List Qaa).map Qac)
def Qvg (x88:Qfh):Slot:=.own 10 [[(I x88.Steam.Mass),(I x88.Steam.Heat),(I x88.Steam.Silica),(I x88.Steam.Gas),(I x88.Water.Mass),(I x88.Water.Heat),(I x88.Water.Silica),(I x88.Water.Gas),(I x88.Rest),(I x88.Scale)]]
def Zb3 (x26:Qam):AV:=.dat 1 (([w64 (1000-x26.Amount),x26.Amount]:List Int).map Qad)
def Q6a (x102:Qaa):AV:=.agg [(I x102.Mass),(I x102.Heat),(I x102.Silica),(I x102.Gas)]
def Zb2 (x88:Qfh) (x102:Qaa):AV:=.dat 4 (([(⟨x88.Steam.Mass,x88.Steam.Heat,x88.Steam.Silica,x88.Steam.Gas⟩:Qaa),x102]:List Qaa).map Qac)
def Q09 (x107:Qaa):AV:=.agg [(I x107.Mass),(I x107.Heat),(I x107.Silica),(I x107.Gas)]
def Q08 (x108:Qaa):AV:=.agg [(I x108.Mass),(I x108.Heat),(I x108.Silica),(I x108.Gas)]
def Q07 (x42 x117:Qaa) (x114:Int):Slot:=.own 4 ((([x42]).set ((0:Int).toNat) (⟨x117.Mass,x114,x117.Silica,x117.Gas⟩:Qaa):List Qaa).map Qac)
def Q6c:AV:=.acc 7 89 4 ((([]:List Qaa):List Qaa).map Qac)
def Qvf (y119:List Qaa):AV:=.acc 8 89 4 ((([]:List Qaa)++y119:List Qaa).map Qac)
def Q06 (x140:Qaa):AV:=.agg [(I x140.Mass),(I x140.Heat),(I x140.Silica),(I x140.Gas)]
def Q1e (p2:List Qaa) (y7:Int):AV:=.dat 4 (((p2.drop y7.toNat).take ((w64 (y7+1)).toNat-y7.toNat):List Qaa).map Qac)
theorem Qt9 (N:Nat) (p0:GNet) (p1:List Int) (p2:List Qaa) (r:(Qfg×Int×Int)) (h:Qn0 N p0 p1 p2=some r):Spec prog 22 [(.agg (Qgx p0)),(.dat 1 (p1.map Qad)),(.dat 4 (p2.map Qac))] [] (.tup [(.agg (Q4x r.1)),(I r.2.1),(I r.2.2)]) []:=by
  refine Qak func22 rfl 0 (nle rfl) (fun X φ0 w0 hφ0 hd0=>?_)
  unfold Qn0 at h
  refine wxz<|wxz<|wxz ?_
  obtain⟨k5,hk_k5,h⟩:=jko h
  refine wjn (τ:=Int×(List (List Qaa))×(List Qa9)×(List Int)) (fun t=>k5 t=some r) (fun ⟨y1,y2,y3,y4⟩=>⟨mk 209 [(6,.ref 0 3 0 0),(9,.ref 1 3 0 0),(10,I y1)],[Qgw,(.own 3 [[(.acc 2 28 1 (y2.map Qae)),(.acc 3 90 4 (y3.map Qax)),(.acc 4 3 1 (y4.map Qad))]]),.tok,.tok,.tok]⟩) (fun t h=>?_) ?_
  ·subst hk_k5
   obtain⟨y1,y2,y3,y4⟩:=t
   refine wxz<|Qah ?_
   obtain rfl:=osi h
   exact fend ⟨[(.agg [(.dat 1 (y2.map Qae)),(.dat 4 (y3.map Qax)),(.dat 1 (y4.map Qad))]),I y1,(I ((-1)))],⟨Qdi (v:=(.agg [(.acc 2 28 1 (y2.map Qae)),(.acc 3 90 4 (y3.map Qax)),(.acc 4 3 1 (y4.map Qad))])) (Qbn (n:=0) (m:=3) (j:=0) (i:=0) (xs:=[[(.acc 2 28 1 (y2.map Qae)),(.acc 3 90 4 (y3.map Qax)),(.acc 4 3 1 (y4.map Qad))]]) (by kernel_rfl) (by kernel_rfl) ti52 (by decide) rfl (nle rfl) rfl) (Less.agg ⟨Less.acc,Less.acc,Less.acc,tv⟩),rot,rot,tv⟩,rfl⟩ (NLt.tup _ (nlc (NLt.agg _ (nlc (nld Qai _) (nlc (nld Qa2 _) (nlc (nld Qag _) nl0)))) (nlcc nl0)))
  ·skip
   refine wxz<|Qap ?_
   refine wmr (Mor.trans (Qna (n:=3) (ty:=28) (m:=1) (q:=2) (mq:=3) (c:=[nilS,nilS,nilS]) 0 (by kernel_rfl) (by kernel_rfl) (by kernel_rfl) (by decide)) (Mor.trans (Qna (n:=4) (ty:=90) (m:=4) (q:=2) (mq:=3) (c:=[Qyz,nilS,nilS]) 1 (by kernel_rfl) (by kernel_rfl) (by kernel_rfl) (by decide)) (Mor.trans (Qna (n:=5) (ty:=3) (m:=1) (q:=2) (mq:=3) (c:=[Qyz,Q6b,nilS]) 2 (by kernel_rfl) (by kernel_rfl) (by kernel_rfl) (by decide)) (mto (n:=209) (l':=[(1,(.dat 1 (p1.map Qad))),(2,(Qex p2)),(3,.ref 0 2 0 0),(6,.ref 1 3 0 0),(9,.ref 2 3 0 0),(10,I 0),(11,I 0),(12,I 0)]) (own':=[(Qhn p0),Qgw,(.own 3 [[(.acc 3 28 1 ((([]):List (List Qaa)).map Qae)),(.acc 4 90 4 ((([]):List Qa9).map Qax)),(.acc 5 3 1 ((([]):List Int).map Qad))]]),.tok,.tok,.tok]) [(1,(.dat 1 (p1.map Qad))),(2,(Qex p2)),(3,.ref 0 2 0 0),(6,.ref 1 3 0 0),(9,.ref 2 3 0 0),(10,I 0),(11,I 0),(12,I 0)] [0,1,2,3,4,5] [(Qhn p0),Qgw,(.own 3 [[Qyz,Q6b,(.acc 5 3 1 (([]:List Int).map Qad))]]),.tok,.tok,.tok] hφ0 (pc (rnd Qag) (pc (rnd Qaf) (prr (prr (prr (pw (pw (pw pn)))))))) (qb (lc (rnd Qao) (lc (rnd Qab) ln)) (qb (lcc (lc rwl ln)) (qb (lc (.rn (Qa3 rfl (Qa0 Qai _))) (lc (.rn (Qa3 rfl (Qa0 Qa2 _))) (lc (.rn (Qa3 rfl (Qa0 Qag _))) ln))) (qc .tok (qc .tok (qc .tok qn)))))))))) ?_
   refine Qbv (τ:=Int×Int×Int×(List (List Qaa))×(List Qa9)×(List Int)) (fun n t=>Qgm N p0 p1 p2 k5 n t.1 t.2.1 t.2.2.1 t.2.2.2.1 t.2.2.2.2.1 t.2.2.2.2.2=some r) (fun ⟨y6,y7,y8,y9,y10,y11⟩=>⟨mk 209 [(1,(.dat 1 (p1.map Qad))),(2,(Qex p2)),(3,.ref 0 2 0 0),(6,.ref 1 3 0 0),(9,.ref 2 3 0 0),(10,I y6),(11,I y7),(12,I y8)],[(Qhn p0),Qgw,(Qr1 y9 y10 y11),.tok,.tok,.tok]⟩) (fun t h=>by rw[Qgm] at h;cases h) (fun n18 ih t h=>?_) N (0,0,0,[],[],[]) h
   obtain⟨y6,y7,y8,y9,y10,y11⟩:=t
   rw[Qgm] at h
   skip
   refine wsq<|wx tbk [(3,rp _ _)] ⟨alq 7 Qal p0.Elements underlying24,tv⟩ ?_
   refine bfe h (fun hc19 h=>?_) fun hc19 h=>?_
   ·refine wft hc19<|Qaq<|thn ?_
    obtain⟨k25,hk_k25,h⟩:=jko h
    refine wjn (τ:=Int×Int×(List (List Qaa))×(List Qa9)×(List Int)) (fun t=>k25 t=some r) (fun ⟨y20,y21,y22,y23,y24⟩=>⟨mk 209 [(1,(.dat 1 (p1.map Qad))),(2,(Qex p2)),(3,.ref 0 2 0 0),(6,.ref 1 3 0 0),(9,.ref 2 3 0 0),(10,I y20),(11,I y21),(12,I y8)],[(Qhn p0),Qgw,(.own 3 [[(.acc 3 28 1 (y22.map Qae)),(.acc 4 90 4 (y23.map Qax)),(.acc 5 3 1 (y24.map Qad))]]),.tok,.tok,.tok]⟩) (fun t h=>?_) ?_
    ·subst hk_k25
     obtain⟨y20,y21,y22,y23,y24⟩:=t
     exact wxz1<|thn<|arm (mto (n:=209) [(1,(.dat 1 (p1.map Qad))),(2,(Qex p2)),(3,.ref 0 2 0 0),(6,.ref 1 3 0 0),(9,.ref 2 3 0 0),(10,I y20),(11,I y21),(12,(I (w64 (y8+1))))] [0,1,2,3,4,5] [(Qhn p0),Qgw,(.own 3 [[(.acc 3 28 1 (y22.map Qae)),(.acc 4 90 4 (y23.map Qax)),(.acc 5 3 1 (y24.map Qad))]]),.tok,.tok,.tok] hφ0 (pc (rnd Qag) (pc (rnd Qaf) (prr (prr (prr (pw (pw (pw pn)))))))) (qb (lc (rnd Qao) (lc (rnd Qab) ln)) (qb (lcc (lc rwl ln)) (qb (lc (.rn (Qa3 rfl (Qa0 Qai _))) (lc (.rn (Qa3 rfl (Qa0 Qa2 _))) (lc (.rn (Qa3 rfl (Qa0 Qag _))) ln))) (qc .tok (qc .tok (qc .tok qn))))))) (ih (y20,y21,w64 (y8+1),y22,y23,y24) h)
    ·skip
     refine Qap ?_
     obtain⟨x26,hg27,h⟩:=bno h
     obtain⟨hi28,hj29⟩:=gsm hg27
     refine wx tbk [(3,rp _ _)] ⟨aiq underlying24 ti59 Qal hi28 hj29,tv⟩<|wxz ?_
     obtain⟨k35,hk_k35,h⟩:=jko h
     refine wjn (τ:=Int×(List Qaa)×(List (List Qaa))×(List Qa9)×(List Int)) (fun t=>k35 t=some r) (fun ⟨y30,y31,y32,y33,y34⟩=>⟨mk 209 [(1,(.dat 1 (p1.map Qad))),(2,(Qex p2)),(3,.ref 0 2 0 0),(6,.ref 1 3 0 0),(9,.ref 2 3 0 0),(10,I y6),(11,I y30),(12,I y8),(13,.ref 3 7 0 0),(14,(.dat 4 (y31.map Qac)))],[(Qhn p0),Qgw,(.own 3 [[(.acc 4 28 1 (y32.map Qae)),(.acc 5 90 4 (y33.map Qax)),(.acc 6 3 1 (y34.map Qad))]]),(Qey x26),.tok,.tok,.tok]⟩) (fun t h=>?_) ?_
     ·subst hk_k35
      obtain⟨y30,y31,y32,y33,y34⟩:=t
      obtain⟨k40,hk_k40,h⟩:=jko h
      refine wjn (τ:=(List Qaa)×(List (List Qaa))×(List Qa9)×(List Int)) (fun t=>k40 t=some r) (fun ⟨y36,y37,y38,y39⟩=>⟨mk 209 [(1,(.dat 1 (p1.map Qad))),(2,(Qex p2)),(3,.ref 0 2 0 0),(6,.ref 1 3 0 0),(9,.ref 2 3 0 0),(10,I y6),(11,I y30),(12,I y8),(13,.ref 3 7 0 0),(14,(.dat 4 (y36.map Qac)))],[(Qhn p0),Qgw,(.own 3 [[(.acc 4 28 1 (y37.map Qae)),(.acc 5 90 4 (y38.map Qax)),(.acc 6 3 1 (y39.map Qad))]]),(Qey x26),.tok,.tok,.tok]⟩) (fun t h=>?_) ?_
      ·subst hk_k40
       obtain⟨y36,y37,y38,y39⟩:=t
       obtain⟨x42,hf41,h⟩:=bno h
       refine wx tbk [(1,rp _ _)] ⟨apv Q4r (Qoh N y36 _ hf41) (nlc (nld Qaf _) nl0) (NLt.agg _ (nlcc (nlcc nl0))),tv⟩<|wsq ?_
       obtain⟨x43,hg44,h⟩:=bno h
       obtain⟨hi45,hj46⟩:=gsm hg44
       obtain⟨x48,hf47,h⟩:=bno h
       refine wxd tbk [(5,rp _ _),(7,rp _ _)] ⟨aiq underlying27 ti3 Qad hi45 hj46,apv Znx (Qvt N x26 x43 _ hf47) (nlc (NLt.agg _ (nlc nll (nlc (nld Qa1 _) (nlcc (nlcc (nlc (nld Qag _) nl0)))))) (nlc nll nl0)) nll,tv⟩ ?_
       refine bfe h (fun hc49 h=>?_) fun hc49 h=>?_
       ·refine wft hc49<|wx tbk [(0,rp _ _)] ⟨Qaz (vs:=[]) rfl ts52 tz52 rfl (by rfl) rfl,tv⟩<|Qah<|Qaj<|Qau<|Qaj<|Qaj<|Qau<|Qaj ?_
        obtain rfl:=osi h
        exact fend ⟨[(.agg [(.dat 1 (([]:List (List Qaa)).map Qae)),(.dat 4 (([]:List Qa9).map Qax)),(.dat 1 (([]:List Int).map Qad))]),I 0,I y8],⟨Qdi (v:=(.agg [nilS,nilS,nilS])) (Qbn (n:=1) (m:=3) (j:=0) (i:=0) (xs:=[[nilS,nilS,nilS]]) (by kernel_rfl) (by kernel_rfl) ti52 (by decide) rfl (nle rfl) rfl) (Less.agg ⟨Less.nil,Less.nil,Less.nil,tv⟩),rot,rot,tv⟩,rfl⟩ (NLt.tup _ (nlc (NLt.agg _ (nlc (nld Qai _) (nlc (nld Qa2 _) (nlc (nld Qag _) nl0)))) (nlcc nl0)))
       ·refine wfn hc49<|Qaq<|thn ?_
        refine wx tbk [(1,⟨[(.tmp 89,(Zb1 x42))],[(8,.unused)],(.own 8 4 (0) (1)),[(8,(Qr0 x42))],false⟩)] ⟨Qot (vs:=[(Zb1 x42)]) rfl underlying28 ti89 tz89 rfl (by decide) rfl (by decide) (by rfl) (by rfl) (by rfl) rfl,tv⟩<|wxz ?_
        obtain⟨k55,hk_k55,h⟩:=jko h
        refine wjn (τ:=(List (List Qaa))×(List Qa9)×(List Int)×(List Qaa)×Int) (fun t=>k55 t=some r) (fun ⟨y50,y51,y52,y53,y54⟩=>⟨mk 209 [(1,(.dat 1 (p1.map Qad))),(2,(Qex p2)),(3,.ref 0 2 0 0),(6,.ref 1 3 0 0),(9,.ref 2 3 0 0),(10,I y6),(11,I y30),(12,I y8),(13,.ref 3 7 0 0),(16,.ref 4 4 0 0),(17,(.own 5 4 (0) (1))),(18,.ref 6 4 0 0)],[(Qhn p0),Qgw,(Qpd y50 y51 y52),(Qey x26),(Qi8 x42),(.own 4 (y53.map Qac)),(Qrz y54),.tok,.tok,.tok]⟩) (fun t h=>?_) ?_
        ·subst hk_k55
         obtain⟨y50,y51,y52,y53,y54⟩:=t
         obtain⟨k65,hk_k65,h⟩:=jko h
         refine wjn (τ:=Int×(List Qaa)×(List (List Qaa))×(List Qa9)×(List Int)×Int×Int×Int×Int) (fun t=>k65 t=some r) (fun ⟨y56,y57,y58,y59,y60,y61,y62,y63,y64⟩=>⟨mk 209 [(1,(.dat 1 (p1.map Qad))),(2,(Qex p2)),(3,.ref 0 2 0 0),(6,.ref 1 3 0 0),(9,.ref 2 3 0 0),(10,I y56),(11,I y30),(12,I y8),(13,.ref 3 7 0 0),(16,.ref 4 4 0 0),(17,(.dat 4 (y57.map Qac))),(18,.ref 5 4 0 0)],[(Qhn p0),Qgw,(.own 3 [[(.acc 6 28 1 (y58.map Qae)),(.acc 7 90 4 (y59.map Qax)),(.acc 8 3 1 (y60.map Qad))]]),(Qey x26),(Qi8 x42),(.own 4 [[I y61,I y62,I y63,I y64]]),.tok,.tok,.tok]⟩) (fun t h=>?_) ?_
         ·subst hk_k65
          obtain⟨y56,y57,y58,y59,y60,y61,y62,y63,y64⟩:=t
          obtain⟨k74,hk_k74,h⟩:=jko h
          refine wjn (τ:=(List Qaa)×(List (List Qaa))×(List Qa9)×(List Int)×Int×Int×Int×Int) (fun t=>k74 t=some r) (fun ⟨y66,y67,y68,y69,y70,y71,y72,y73⟩=>⟨mk 209 [(1,(.dat 1 (p1.map Qad))),(2,(Qex p2)),(3,.ref 0 2 0 0),(6,.ref 1 3 0 0),(9,.ref 2 3 0 0),(10,I y56),(11,I y30),(12,I y8),(17,(.dat 4 (y66.map Qac))),(18,.ref 3 4 0 0)],[(Qhn p0),Qgw,(.own 3 [[(.acc 4 28 1 (y67.map Qae)),(.acc 5 90 4 (y68.map Qax)),(.acc 6 3 1 (y69.map Qad))]]),(.own 4 [[I y70,I y71,I y72,I y73]]),.tok,.tok,.tok]⟩) (fun t h=>?_) ?_
          ·subst hk_k74
           obtain⟨y66,y67,y68,y69,y70,y71,y72,y73⟩:=t
           obtain⟨ha75,h⟩:=cko h
           obtain⟨hz76,h⟩:=cko h
           obtain⟨ha77,h⟩:=cko h
           obtain⟨ha78,h⟩:=cko h
           refine wy1 tbk [(3,rp [(.tmp 185,(.dat 4 (y66.map Qac)))] (.dat 1 (([y66]:List (List Qaa)).map Qae))),(4,⟨[(.tmp 184,(.acc 4 28 1 (y67.map Qae))),(.tmp 186,(.dat 1 (([y66]:List (List Qaa)).map Qae)))],[(4,.tok),(7,.unused)],(Q1d y67 y66),[(4,.dead),(7,.tok)],false⟩),(8,⟨[(.tmp 190,(.agg [I y70,I y71,I y72,I y73]))],[(8,.unused)],(.own 8 4 (0) (1)),[(8,(.own 4 (([(⟨y70,y71,y72,y73⟩:Qa9)]:List Qa9).map Qax)))],false⟩),(9,⟨[(.tmp 189,(.acc 5 90 4 (y68.map Qax))),(.tmp 191,(.own 8 4 (0) (1)))],[(8,(.own 4 (([(⟨y70,y71,y72,y73⟩:Qa9)]:List Qa9).map Qax))),(5,.tok),(9,.unused)],(Q1c y68 y70 y71 y72 y73),[(5,.dead),(9,.tok)],false⟩),(14,rp _ _),(19,rp [(.tmp 201,(I (w64 (x43+y73))))] (.dat 1 (([w64 (x43+y73)]:List Int).map Qad))),(20,⟨[(.tmp 194,(.acc 6 3 1 (y69.map Qad))),(.tmp 202,(.dat 1 (([w64 (x43+y73)]:List Int).map Qad)))],[(6,.tok),(10,.unused)],(.acc 10 3 1 ((y69++([w64 (x43+y73)]):List Int).map Qad)),[(6,.dead),(10,.tok)],false⟩)] ⟨Qbo (vs:=[(.dat 4 (y66.map Qac))]) rfl underlying49 ti28 tz28 rfl (by decide) rfl (by decide) (by rfl) (by rfl) (by rfl) rfl,Qd6 rfl underlying49 te28 (Base.acc _ _) rfl rfl (by rfl) (Qg2 Qae ha75) (Qg1 Qae ha75 (by decide)) (Qg0 Qae) rfl rfl,Qot (vs:=[(.agg [I y70,I y71,I y72,I y73])]) rfl underlying50 ti90 tz90 rfl (by decide) rfl (by decide) (by rfl) (by rfl) (by rfl) rfl,Qi3 (rd':=[(.tmp 189,(.acc 5 90 4 (y68.map Qax))),(.tmp 191,(.dat 4 ((([(⟨y70,y71,y72,y73⟩:Qa9)]).take 1:List Qa9).map Qax)))]) [(8,4,([(⟨y70,y71,y72,y73⟩:Qa9)]:List Qa9).map Qax)] ⟨rfl,.same _,rfl,(Qwt 0 rfl hz76),tv⟩ (by rfl) (.acc _ _ _ _ (nin rfl) (by simp) (Qzq Zdw _)) (Qsb .dead (Qsb .tok Qte)) (Qd6 rfl underlying50 te90 (Base.acc _ _) rfl rfl (Qol Qax Zdh _) (Qg2 Qax ha77) (Qg1 Qax ha77 (by decide)) (Qg0 Qax) rfl rfl),aiq underlying27 ti3 Qad hi45 hj46,Qbo (vs:=[(I (w64 (x43+y73)))]) rfl underlying27 ti3 tz3 rfl (by decide) rfl (by decide) (by rfl) (by rfl) (by rfl) rfl,Qd6 rfl underlying27 te3 (Base.acc _ _) rfl rfl (by rfl) (Qg2 Qad ha78) (Qg1 Qad ha78 (by decide)) (Qg0 Qad) rfl rfl,tv⟩<|bln<|thn ?_
           exact⟨(y56,y30,y67++([y66]),y68++(([(⟨y70,y71,y72,y73⟩:Qa9)]).take 1),y69++([w64 (x43+y73)])),h,(mto (n:=209) [(1,(.dat 1 (p1.map Qad))),(2,(Qex p2)),(3,.ref 0 2 0 0),(6,.ref 1 3 0 0),(9,.ref 2 3 0 0),(10,I y56),(11,I y30),(12,I y8)] [0,1,2,7,9,10] [(Qhn p0),Qgw,(.own 3 [[(Q1d y67 y66),(Q1c y68 y70 y71 y72 y73),(.acc 10 3 1 ((y69++([w64 (x43+y73)]):List Int).map Qad))]]),.tok,.tok,.tok] hφ0 (pc (rnd Qag) (pc (rnd Qaf) (prr (prr (prr (pw (pw (pw pn)))))))) (qb (lc (rnd Qao) (lc (rnd Qab) ln)) (qb (lcc (lc rwl ln)) (qb (lc (.rn (Qa3 rfl (Qa0 Qai _))) (lc (.rn (Qa3 rfl (Qa0 Qa2 _))) (lc (.rn (Qa3 rfl (Qa0 Qag _))) ln))) (qc .tok (qc .tok (qc .tok qn)))))))⟩
          ·skip
           refine wxz ?_
           refine bfe h (fun hc79 h=>?_) fun hc79 h=>?_
           ·refine wft hc79 ?_
            obtain⟨x81,hf80,h⟩:=bno h
            refine wx tbk [(3,rp _ _)] ⟨apv Zeo (Qpm N x42 x26.Weights _ hf80) (nlc (NLt.agg _ (nlcc (nlcc nl0))) (nlc (nld Qag _) nl0)) (NLt.tup _ (nlc (nld Qaf _) (nlc (NLt.agg _ (nlcc (nlc nll nl0))) nl0))),tv⟩ ?_
            exact wy1 tbk [(7,rp _ _)] ⟨Qaz (vs:=[I x81.2.Heat,I x81.2.Silica,I x81.2.Gas,I 0]) rfl ts90 tz90 rfl (by rfl) rfl,tv⟩<|thn<|⟨(x81.1,y58,y59,y60,x81.2.Heat,x81.2.Silica,x81.2.Gas,0),h,(mto (n:=209) [(1,(.dat 1 (p1.map Qad))),(2,(Qex p2)),(3,.ref 0 2 0 0),(6,.ref 1 3 0 0),(9,.ref 2 3 0 0),(10,I y56),(11,I y30),(12,I y8),(17,(.dat 4 (x81.1.map Qac))),(18,.ref 5 4 0 0)] [0,1,2,5,6,7,8] [(Qhn p0),Qgw,(.own 3 [[(.acc 6 28 1 (y58.map Qae)),(.acc 7 90 4 (y59.map Qax)),(.acc 8 3 1 (y60.map Qad))]]),(.own 4 [[I x81.2.Heat,I x81.2.Silica,I x81.2.Gas,I 0]]),.tok,.tok,.tok] hφ0 (pc (rnd Qag) (pc (rnd Qaf) (prr (prr (prr (pw (pw (pw (pc (rnd Qaf) (prr pn)))))))))) (qb (lc (rnd Qao) (lc (rnd Qab) ln)) (qb (lcc (lc rwl ln)) (qb (lc (.rn (Qa3 rfl (Qa0 Qai _))) (lc (.rn (Qa3 rfl (Qa0 Qa2 _))) (lc (.rn (Qa3 rfl (Qa0 Qag _))) ln))) (qb (lcc (lcc ln)) (qc .tok (qc .tok (qc .tok qn))))))))⟩
           ·exact wfn hc79<|Qaq<|thn<|⟨(y57,y58,y59,y60,y61,y62,y63,y64),h,(mto (n:=209) [(1,(.dat 1 (p1.map Qad))),(2,(Qex p2)),(3,.ref 0 2 0 0),(6,.ref 1 3 0 0),(9,.ref 2 3 0 0),(10,I y56),(11,I y30),(12,I y8),(17,(.dat 4 (y57.map Qac))),(18,.ref 5 4 0 0)] [0,1,2,5,6,7,8] [(Qhn p0),Qgw,(.own 3 [[(.acc 6 28 1 (y58.map Qae)),(.acc 7 90 4 (y59.map Qax)),(.acc 8 3 1 (y60.map Qad))]]),(.own 4 [[I y61,I y62,I y63,I y64]]),.tok,.tok,.tok] hφ0 (pc (rnd Qag) (pc (rnd Qaf) (prr (prr (prr (pw (pw (pw (pc (rnd Qaf) (prr pn)))))))))) (qb (lc (rnd Qao) (lc (rnd Qab) ln)) (qb (lcc (lc rwl ln)) (qb (lc (.rn (Qa3 rfl (Qa0 Qai _))) (lc (.rn (Qa3 rfl (Qa0 Qa2 _))) (lc (.rn (Qa3 rfl (Qa0 Qag _))) ln))) (qb (lcc (lcc ln)) (qc .tok (qc .tok (qc .tok qn))))))))⟩
         ·skip
          refine wxz ?_
          refine bfe h (fun hc82 h=>?_) fun hc82 h=>?_
          ·refine wft hc82 ?_
           obtain⟨x83,hg84,h⟩:=bno h
           obtain⟨hi85,hj86⟩:=gsm hg84
           obtain⟨x88,hf87,h⟩:=bno h
           refine wxd tbk [(4,rp _ _),(7,rp _ _)] ⟨aiq underlying23 Qup Qav hi85 hj86,apv Znw (Qvx N x83 x42 _ hf87) (nlc (NLt.agg _ (nlcc (nlcc (nlc nll nl0)))) (nlc (NLt.agg _ (nlcc (nlcc nl0))) nl0)) (NLt.agg _ (nlcc (nlcc (nlcc (nlcc (nlcc nl0)))))),tv⟩ ?_
           refine wx tbk [(4,rp [(.tmp 120,(Qry x88)),(.tmp 122,(Q1b x88))] (Q1a x88))] ⟨Qbo (vs:=[(Qry x88),(Q1b x88)]) rfl underlying28 ti89 tz89 rfl (by decide) rfl (by decide) (by rfl) (by rfl) (by rfl) rfl,tv⟩ ?_
           obtain⟨k96,hk_k96,h⟩:=jko h
           refine wjn (τ:=(List Qaa)×(List (List Qaa))×(List Qa9)×(List Int)×Int×Int×Int) (fun t=>k96 t=some r) (fun ⟨y89,y90,y91,y92,y93,y94,y95⟩=>⟨mk 209 [(1,(.dat 1 (p1.map Qad))),(2,(Qex p2)),(3,.ref 0 2 0 0),(6,.ref 1 3 0 0),(9,.ref 2 3 0 0),(10,I y6),(11,I y30),(12,I y8),(13,.ref 3 7 0 0),(16,.ref 4 4 0 0),(17,(.dat 4 (y89.map Qac))),(18,.ref 5 4 0 0),(19,.ref 6 10 0 0)],[(Qhn p0),Qgw,(.own 3 [[(.acc 7 28 1 (y90.map Qae)),(.acc 8 90 4 (y91.map Qax)),(.acc 9 3 1 (y92.map Qad))]]),(Qey x26),(Qi8 x42),(.own 4 [[I y93,I y94,I y95,I 0]]),(Qvg x88),.tok,.tok,.tok]⟩) (fun t h=>?_) ?_
           ·subst hk_k96
            obtain⟨y89,y90,y91,y92,y93,y94,y95⟩:=t
            refine wxz ?_
            obtain⟨x97,hl98,h⟩:=bno h
            exact wx1 tbk [(5,rp [(.tmp 164,(I (w64 (y6+x88.Steam.Mass))))] (I x97))] ⟨Qin hl98 (aas rfl),tv⟩<|thn<|⟨(x97,y89,y90,y91,y92,y93,y94,y95,x88.Scale),h,(mto (n:=209) [(1,(.dat 1 (p1.map Qad))),(2,(Qex p2)),(3,.ref 0 2 0 0),(6,.ref 1 3 0 0),(9,.ref 2 3 0 0),(10,I x97),(11,I y30),(12,I y8),(13,.ref 3 7 0 0),(16,.ref 4 4 0 0),(17,(.dat 4 (y89.map Qac))),(18,.ref 5 4 0 0)] [0,1,2,3,4,5,7,8,9] [(Qhn p0),Qgw,(.own 3 [[(.acc 7 28 1 (y90.map Qae)),(.acc 8 90 4 (y91.map Qax)),(.acc 9 3 1 (y92.map Qad))]]),(Qey x26),(Qi8 x42),(.own 4 [[I y93,I y94,I y95,I x88.Scale]]),.tok,.tok,.tok] hφ0 (pc (rnd Qag) (pc (rnd Qaf) (prr (prr (prr (pw (pw (pw (prr (prr (pc (rnd Qaf) (prr pn)))))))))))) (qb (lc (rnd Qao) (lc (rnd Qab) ln)) (qb (lcc (lc rwl ln)) (qb (lc (.rn (Qa3 rfl (Qa0 Qai _))) (lc (.rn (Qa3 rfl (Qa0 Qa2 _))) (lc (.rn (Qa3 rfl (Qa0 Qag _))) ln))) (qb (lc rwl (lc (rnd Qa1) (lcc (lcc (lc (rnd Qag) ln))))) (qb (lcc (lcc ln)) (qb (lcc (lcc ln)) (qc .tok (qc .tok (qc .tok qn))))))))))⟩
           ·skip
            refine wxz ?_
            refine bfe h (fun hc99 h=>?_) fun hc99 h=>?_
            ·refine wft hc99 ?_
             obtain⟨x101,hf100,h⟩:=bno h
             refine wx tbk [(7,rp [(.tmp 132,(I (w64 (1000-x26.Amount)))),(.tmp 134,I x26.Amount)] (Zb3 x26)),(8,rp _ _)] ⟨Qbo (vs:=[(I (w64 (1000-x26.Amount))),I x26.Amount]) rfl underlying27 ti3 tz3 rfl (by decide) rfl (by decide) (by rfl) (by rfl) (by rfl) rfl,apv Zeo (Qpm N (⟨x88.Water.Mass,x88.Water.Heat,x88.Water.Silica,x88.Water.Gas⟩:Qaa) ([w64 (1000-x26.Amount),x26.Amount]) _ hf100) (nlc (NLt.agg _ (nlcc (nlcc nl0))) (nlc (nld Qag _) nl0)) (NLt.tup _ (nlc (nld Qaf _) (nlc (NLt.agg _ (nlcc (nlc nll nl0))) nl0))),tv⟩ ?_
             obtain⟨x102,hg103,h⟩:=bno h
             obtain⟨hi104,hj105⟩:=gsm hg103
             obtain⟨x107,hf106,h⟩:=bno h
             obtain⟨x108,hg109,h⟩:=bno h
             obtain⟨hi110,hj111⟩:=gsm hg109
             refine wxd tbk [(3,rp _ _),(5,rp [(.tmp 140,(Qry x88)),(.tmp 143,(Q6a x102))] (Zb2 x88 x102)),(6,rp _ _),(8,rp _ _),(10,rp [(.tmp 145,(Q09 x107)),(.tmp 148,(Q08 x108))] (.dat 4 (([x107,x108]:List Qaa).map Qac)))] ⟨aiq underlying28 ti89 Qac hi104 hj105,Qbo (vs:=[(Qry x88),(Q6a x102)]) rfl underlying28 ti89 tz89 rfl (by decide) rfl (by decide) (by rfl) (by rfl) (by rfl) rfl,apv Q4r (Qoh N ([(⟨x88.Steam.Mass,x88.Steam.Heat,x88.Steam.Silica,x88.Steam.Gas⟩:Qaa),x102]) _ hf106) (nlc (nld Qaf _) nl0) (NLt.agg _ (nlcc (nlcc nl0))),aiq underlying28 ti89 Qac hi110 hj111,Qbo (vs:=[(Q09 x107),(Q08 x108)]) rfl underlying28 ti89 tz89 rfl (by decide) rfl (by decide) (by rfl) (by rfl) (by rfl) rfl,tv⟩ ?_
             exact wx1 tbk [(6,rp _ _)] ⟨Qaz (vs:=[I x101.2.Heat,I x101.2.Silica,I x101.2.Gas,I 0]) rfl ts90 tz90 rfl (by rfl) rfl,tv⟩<|thn<|⟨([x107,x108],y50,y51,y52,x101.2.Heat,x101.2.Silica,x101.2.Gas),h,(mto (n:=209) [(1,(.dat 1 (p1.map Qad))),(2,(Qex p2)),(3,.ref 0 2 0 0),(6,.ref 1 3 0 0),(9,.ref 2 3 0 0),(10,I y6),(11,I y30),(12,I y8),(13,.ref 3 7 0 0),(16,.ref 4 4 0 0),(17,(.dat 4 (([x107,x108]:List Qaa).map Qac))),(18,.ref 6 4 0 0),(19,.ref 10 10 0 0)] [0,1,2,3,4,6,10,7,8,9] [(Qhn p0),Qgw,(Qpd y50 y51 y52),(Qey x26),(Qi8 x42),(.own 4 [[I x101.2.Heat,I x101.2.Silica,I x101.2.Gas,I 0]]),(Qvg x88),.tok,.tok,.tok] hφ0 (pc (rnd Qag) (pc (rnd Qaf) (prr (prr (prr (pw (pw (pw (prr (prr (pc (rnd Qaf) (prr (prr pn))))))))))))) (qb (lc (rnd Qao) (lc (rnd Qab) ln)) (qb (lcc (lc rwl ln)) (qb (lc (.rn (Qa3 rfl (Qa0 Qai _))) (lc (.rn (Qa3 rfl (Qa0 Qa2 _))) (lc (.rn (Qa3 rfl (Qa0 Qag _))) ln))) (qb (lc rwl (lc (rnd Qa1) (lcc (lcc (lc (rnd Qag) ln))))) (qb (lcc (lcc ln)) (qb (lcc (lcc ln)) (qb (lcc (lcc (lcc (lcc (lcc ln))))) (qc .tok (qc .tok (qc .tok qn)))))))))))⟩
            ·exact wfn hc99<|Qaq<|thn<|⟨([(⟨x88.Steam.Mass,x88.Steam.Heat,x88.Steam.Silica,x88.Steam.Gas⟩:Qaa),(⟨x88.Water.Mass,x88.Water.Heat,x88.Water.Silica,x88.Water.Gas⟩:Qaa)],y50,y51,y52,y54,0,0),h,(mto (n:=209) [(1,(.dat 1 (p1.map Qad))),(2,(Qex p2)),(3,.ref 0 2 0 0),(6,.ref 1 3 0 0),(9,.ref 2 3 0 0),(10,I y6),(11,I y30),(12,I y8),(13,.ref 3 7 0 0),(16,.ref 4 4 0 0),(17,(Q1a x88)),(18,.ref 6 4 0 0),(19,.ref 10 10 0 0)] [0,1,2,3,4,6,10,7,8,9] [(Qhn p0),Qgw,(Qpd y50 y51 y52),(Qey x26),(Qi8 x42),(Qrz y54),(Qvg x88),.tok,.tok,.tok] hφ0 (pc (rnd Qag) (pc (rnd Qaf) (prr (prr (prr (pw (pw (pw (prr (prr (pc (rnd Qaf) (prr (prr pn))))))))))))) (qb (lc (rnd Qao) (lc (rnd Qab) ln)) (qb (lcc (lc rwl ln)) (qb (lc (.rn (Qa3 rfl (Qa0 Qai _))) (lc (.rn (Qa3 rfl (Qa0 Qa2 _))) (lc (.rn (Qa3 rfl (Qa0 Qag _))) ln))) (qb (lc rwl (lc (rnd Qa1) (lcc (lcc (lc (rnd Qag) ln))))) (qb (lcc (lcc ln)) (qb (lcc (lcc ln)) (qb (lcc (lcc (lcc (lcc (lcc ln))))) (qc .tok (qc .tok (qc .tok qn)))))))))))⟩
          ·refine wfn hc82<|Qaq<|thn ?_
           obtain⟨hz112,h⟩:=cko h
           exact⟨(y6,y53.take 1,y50,y51,y52,y54,0,0,0),h,(Mor.trans (Q6y (n:=209) (m:=4) (xs:=y53.map Qac) (l':=[(1,(.dat 1 (p1.map Qad))),(2,(Qex p2)),(3,.ref 0 2 0 0),(6,.ref 1 3 0 0),(9,.ref 2 3 0 0),(10,I y6),(11,I y30),(12,I y8),(13,.ref 3 7 0 0),(16,.ref 4 4 0 0),(17,(.dat 4 ((y53.take 1:List Qaa).map Qac))),(18,.ref 6 4 0 0)]) (own':=[(Qhn p0),Qgw,(Qpd y50 y51 y52),(Qey x26),(Qi8 x42),.dead,(Qrz y54),.tok,.tok,.tok]) 5 [(1,(.dat 1 (p1.map Qad))),(2,(Qex p2)),(3,.ref 0 2 0 0),(6,.ref 1 3 0 0),(9,.ref 2 3 0 0),(10,I y6),(11,I y30),(12,I y8),(13,.ref 3 7 0 0),(16,.ref 4 4 0 0),(17,(.own 5 4 (0) (1))),(18,.ref 6 4 0 0)] (by kernel_rfl) (by kernel_rfl) (by kernel_rfl) ⟨rfl,.same _,rfl,.same _,rfl,.same _,rfl,.same _,rfl,.same _,rfl,.same _,rfl,.same _,rfl,.same _,rfl,.same _,rfl,.same _,rfl,(Qnr hz112),rfl,.same _,tv⟩ (by kernel_rfl)) (mto (n:=209) [(1,(.dat 1 (p1.map Qad))),(2,(Qex p2)),(3,.ref 0 2 0 0),(6,.ref 1 3 0 0),(9,.ref 2 3 0 0),(10,I y6),(11,I y30),(12,I y8),(13,.ref 3 7 0 0),(16,.ref 4 4 0 0),(17,(.dat 4 ((y53.take 1:List Qaa).map Qac))),(18,.ref 6 4 0 0)] [0,1,2,3,4,6,7,8,9] [(Qhn p0),Qgw,(Qpd y50 y51 y52),(Qey x26),(Qi8 x42),(Qrz y54),.tok,.tok,.tok] hφ0 (pc (rnd Qag) (pc (rnd Qaf) (prr (prr (prr (pw (pw (pw (prr (prr (pc (rnd Qaf) (prr pn)))))))))))) (qb (lc (rnd Qao) (lc (rnd Qab) ln)) (qb (lcc (lc rwl ln)) (qb (lc (.rn (Qa3 rfl (Qa0 Qai _))) (lc (.rn (Qa3 rfl (Qa0 Qa2 _))) (lc (.rn (Qa3 rfl (Qa0 Qag _))) ln))) (qb (lc rwl (lc (rnd Qa1) (lcc (lcc (lc (rnd Qag) ln))))) (qb (lcc (lcc ln)) (qb (lcc (lcc ln)) (qc .tok (qc .tok (qc .tok qn)))))))))))⟩
        ·skip
         refine wxz ?_
         refine bfe h (fun hc113 h=>?_) fun hc113 h=>?_
         ·refine wft hc113<|wx tbk [(4,rp [(.tmp 95,I x26.Amount),(.tmp 97,I x42.Heat)] (I ((if x42.Heat<x26.Amount then x42.Heat else x26.Amount))))] ⟨Qki rfl,tv⟩ ?_
          obtain⟨x114,hl115,h⟩:=bno h
          obtain⟨hi116,h⟩:=cko h
          obtain⟨hi116a,hi116b⟩:=Qea hi116
          obtain⟨x117,hg118,h⟩:=bno h
          refine wx1 tbk [(5,rp [(.tmp 102,I x42.Heat),(.tmp 104,(I ((if x42.Heat<x26.Amount then x42.Heat else x26.Amount))))] (I x114)),(6,rb [(.tmp 100,(.own 8 4 (0) (1))),ci 0] [(8,(Qr0 x42))] (.ref 8 4 ((0:Int).toNat) 0)),(8,⟨[(.tmp 107,(.ref 8 4 ((0:Int).toNat) 1)),(.tmp 105,I x114)],[(8,(Qr0 x42))],.any,[(8,(Q07 x42 x117 x114))],false⟩)] ⟨Qin hl115 (abn rfl rfl),aio rfl underlying28 ti89 (odt hi116a) (odt hi116b) (Nat.zero_add _),ast rfl ti3 (by rfl) (mgt Qac hg118) (nle rfl) (Qhk Qac rfl),tv⟩<|thn ?_
          exact⟨(y37,y38,y39,([x42]).set ((0:Int).toNat) (⟨x117.Mass,x114,x117.Silica,x117.Gas⟩:Qaa),(if x42.Heat<x26.Amount then x42.Heat else x26.Amount)),h,(mto (n:=209) [(1,(.dat 1 (p1.map Qad))),(2,(Qex p2)),(3,.ref 0 2 0 0),(6,.ref 1 3 0 0),(9,.ref 2 3 0 0),(10,I y6),(11,I y30),(12,I y8),(13,.ref 3 7 0 0),(16,.ref 7 4 0 0),(17,(.own 8 4 (0) (1))),(18,.ref 9 4 0 0)] [0,1,2,3,7,8,9,4,5,6] [(Qhn p0),Qgw,(.own 3 [[(.acc 4 28 1 (y37.map Qae)),(.acc 5 90 4 (y38.map Qax)),(.acc 6 3 1 (y39.map Qad))]]),(Qey x26),(Qi8 x42),(Q07 x42 x117 x114),(.own 4 [[(I ((if x42.Heat<x26.Amount then x42.Heat else x26.Amount))),I 0,I 0,I 0]]),.tok,.tok,.tok] hφ0 (pc (rnd Qag) (pc (rnd Qaf) (prr (prr (prr (pw (pw (pw (prr (prr (pc (.rn (Qa7 rfl)) (prr pn)))))))))))) (qb (lc (rnd Qao) (lc (rnd Qab) ln)) (qb (lcc (lc rwl ln)) (qb (lc (.rn (Qa3 rfl (Qa0 Qai _))) (lc (.rn (Qa3 rfl (Qa0 Qa2 _))) (lc (.rn (Qa3 rfl (Qa0 Qag _))) ln))) (qb (lc rwl (lc (rnd Qa1) (lcc (lcc (lc (rnd Qag) ln))))) (qb (lcc (lcc ln)) (qc (spr Qaf) (qb (lcc (lcc ln)) (qc .tok (qc .tok (qc .tok qn)))))))))))⟩
         ·exact wfn hc113<|Qaq<|thn<|⟨(y37,y38,y39,[x42],0),h,(mto (n:=209) [(1,(.dat 1 (p1.map Qad))),(2,(Qex p2)),(3,.ref 0 2 0 0),(6,.ref 1 3 0 0),(9,.ref 2 3 0 0),(10,I y6),(11,I y30),(12,I y8),(13,.ref 3 7 0 0),(16,.ref 7 4 0 0),(17,(.own 8 4 (0) (1))),(18,.ref 9 4 0 0)] [0,1,2,3,7,8,9,4,5,6] [(Qhn p0),Qgw,(.own 3 [[(.acc 4 28 1 (y37.map Qae)),(.acc 5 90 4 (y38.map Qax)),(.acc 6 3 1 (y39.map Qad))]]),(Qey x26),(Qi8 x42),(Qr0 x42),(.own 4 [[I 0,I 0,I 0,I 0]]),.tok,.tok,.tok] hφ0 (pc (rnd Qag) (pc (rnd Qaf) (prr (prr (prr (pw (pw (pw (prr (prr (pc (.rn (Qa7 rfl)) (prr pn)))))))))))) (qb (lc (rnd Qao) (lc (rnd Qab) ln)) (qb (lcc (lc rwl ln)) (qb (lc (.rn (Qa3 rfl (Qa0 Qai _))) (lc (.rn (Qa3 rfl (Qa0 Qa2 _))) (lc (.rn (Qa3 rfl (Qa0 Qag _))) ln))) (qb (lc rwl (lc (rnd Qa1) (lcc (lcc (lc (rnd Qag) ln))))) (qb (lcc (lcc ln)) (qc (spr Qaf) (qb (lcc (lcc ln)) (qc .tok (qc .tok (qc .tok qn)))))))))))⟩
      ·skip
       refine wxz<|Qap ?_
       refine wmr (mto (n:=209) (l':=[(1,(.dat 1 (p1.map Qad))),(2,(Qex p2)),(3,.ref 0 2 0 0),(6,.ref 1 3 0 0),(9,.ref 2 3 0 0),(10,I y6),(11,I y30),(12,I y8),(13,.ref 3 7 0 0),(14,(.dat 4 (y31.map Qac))),(15,I 0)]) (own':=[(Qhn p0),Qgw,(.own 3 [[(.acc 4 28 1 (y32.map Qae)),(.acc 5 90 4 (y33.map Qax)),(.acc 6 3 1 (y34.map Qad))]]),(Qey x26),.tok,.tok,.tok]) [(1,(.dat 1 (p1.map Qad))),(2,(Qex p2)),(3,.ref 0 2 0 0),(6,.ref 1 3 0 0),(9,.ref 2 3 0 0),(10,I y6),(11,I y30),(12,I y8),(13,.ref 3 7 0 0),(14,(.dat 4 (y31.map Qac))),(15,I 0)] [0,1,2,3,4,5,6] [(Qhn p0),Qgw,(.own 3 [[(.acc 4 28 1 (y32.map Qae)),(.acc 5 90 4 (y33.map Qax)),(.acc 6 3 1 (y34.map Qad))]]),(Qey x26),.tok,.tok,.tok] hφ0 (pc (rnd Qag) (pc (rnd Qaf) (prr (prr (prr (pw (pw (pw (prr (pc (rnd Qaf) (pw pn))))))))))) (qb (lc (rnd Qao) (lc (rnd Qab) ln)) (qb (lcc (lc rwl ln)) (qb (lc (.rn (Qa3 rfl (Qa0 Qai _))) (lc (.rn (Qa3 rfl (Qa0 Qa2 _))) (lc (.rn (Qa3 rfl (Qa0 Qag _))) ln))) (qb (lc rwl (lc (rnd Qa1) (lcc (lcc (lc (rnd Qag) ln))))) (qc .tok (qc .tok (qc .tok qn)))))))) ?_
       refine Qbv (τ:=(List Qaa)×Int×(List (List Qaa))×(List Qa9)×(List Int)) (fun n t=>Qgl N x26 k40 n t.1 t.2.1 t.2.2.1 t.2.2.2.1 t.2.2.2.2=some r) (fun ⟨y119,y120,y121,y122,y123⟩=>⟨mk 209 [(1,(.dat 1 (p1.map Qad))),(2,(Qex p2)),(3,.ref 0 2 0 0),(6,.ref 1 3 0 0),(9,.ref 2 3 0 0),(10,I y6),(11,I y30),(12,I y8),(13,.ref 3 7 0 0),(14,(.dat 4 (y119.map Qac))),(15,I y120)],[(Qhn p0),Qgw,(.own 3 [[(.acc 4 28 1 (y121.map Qae)),(.acc 5 90 4 (y122.map Qax)),(.acc 6 3 1 (y123.map Qad))]]),(Qey x26),.tok,.tok,.tok]⟩) (fun t h=>by rw[Qgl] at h;cases h) (fun n129 ih t h=>?_) N (y31,0,y32,y33,y34) h
       obtain⟨y119,y120,y121,y122,y123⟩:=t
       rw[Qgl] at h
       skip
       refine wsq<|wx tbk [(3,rp _ _)] ⟨alq 2 Qaw x26.From underlying57,tv⟩ ?_
       refine bfe h (fun hc130 h=>?_) fun hc130 h=>?_
       ·refine wft hc130<|Qaq<|thn<|wsq<|Qap ?_
        obtain⟨ha131,h⟩:=cko h
        obtain⟨x132,hg133,h⟩:=bno h
        obtain⟨hi134,hj135⟩:=gsm hg133
        obtain⟨x136,hg137,h⟩:=bno h
        obtain⟨hi138,hj139⟩:=gsm hg137
        obtain⟨x140,hg141,h⟩:=bno h
        obtain⟨hi142,hj143⟩:=gsm hg141
        obtain⟨hz144,h⟩:=cko h
        obtain⟨ha145,h⟩:=cko h
        refine wy1 tbk [(0,⟨[],[(7,.unused)],Q6c,[(7,.tok)],false⟩),(2,⟨[(.tmp 53,Q6c),(.tmp 54,(.dat 4 (y119.map Qac)))],[(7,.tok),(8,.unused)],(Qvf y119),[(7,.dead),(8,.tok)],false⟩),(8,rp _ _),(11,rp [(.tmp 57,(.acc 4 28 1 (y121.map Qae))),(.tmp 63,I x132.Element)] (.dptr (Qae x136) 0)),(16,rp _ _),(19,rp _ _),(21,⟨[(.tmp 73,(Q06 x140))],[(9,.unused)],(.own 9 4 (0) (1)),[(9,(.own 4 (([x140]:List Qaa).map Qac)))],false⟩),(22,⟨[(.tmp 55,(Qvf y119)),(.tmp 74,(.own 9 4 (0) (1)))],[(9,(.own 4 (([x140]:List Qaa).map Qac))),(8,.tok),(10,.unused)],(.acc 10 89 4 (((([]:List Qaa)++y119)++(([x140]).take 1):List Qaa).map Qac)),[(8,.dead),(10,.tok)],false⟩)] ⟨Ql7 rfl underlying28 ti89 tz89,Qd6 rfl underlying28 te89 (Base.acc _ _) rfl rfl (Qol Qac Qwa _) (Qg2 Qac ha131) (Qg1 Qac ha131 (by decide)) (Qg0 Qac) rfl rfl,aiq underlying57 ti61 Qaw hi134 hj135,aid rfl underlying49 ti28 rfl rfl hi138 (mgt Qae hj139) rfl,aiq underlying57 ti61 Qaw hi134 hj135,aiq underlying28 ti89 Qac hi142 hj143,Qot (vs:=[(Q06 x140)]) rfl underlying28 ti89 tz89 rfl (by decide) rfl (by decide) (by rfl) (by rfl) (by rfl) rfl,Qi3 (rd':=[(.tmp 55,(Qvf y119)),(.tmp 74,(.dat 4 ((([x140]).take 1:List Qaa).map Qac)))]) [(9,4,([x140]:List Qaa).map Qac)] ⟨rfl,.same _,rfl,(Qwt 0 rfl hz144),tv⟩ (by rfl) (.acc _ _ _ _ (nin rfl) (by simp) (Qzq Qwf _)) (Qsb .dead (Qsb .tok Qte)) (Qd6 rfl underlying28 te89 (Base.acc _ _) rfl rfl (Qol Qac Qwa _) (Qg2 Qac ha145) (Qg1 Qac ha145 (by decide)) (Qg0 Qac) rfl rfl),tv⟩<|bln<|thn<|wxz1<|thn ?_
        exact arm (mto (n:=209) [(1,(.dat 1 (p1.map Qad))),(2,(Qex p2)),(3,.ref 0 2 0 0),(6,.ref 1 3 0 0),(9,.ref 2 3 0 0),(10,I y6),(11,I y30),(12,I y8),(13,.ref 3 7 0 0),(14,(.acc 10 89 4 (((([]:List Qaa)++y119)++(([x140]).take 1):List Qaa).map Qac))),(15,(I (w64 (y120+1))))] [0,1,2,3,4,5,6] [(Qhn p0),Qgw,(.own 3 [[(.acc 4 28 1 (y121.map Qae)),(.acc 5 90 4 (y122.map Qax)),(.acc 6 3 1 (y123.map Qad))]]),(Qey x26),.tok,.tok,.tok] hφ0 (pc (rnd Qag) (pc (rnd Qaf) (prr (prr (prr (pw (pw (pw (prr (pc (.dat _ _ _ _ (Qa0 Qaf _)) (pw pn))))))))))) (qb (lc (rnd Qao) (lc (rnd Qab) ln)) (qb (lcc (lc rwl ln)) (qb (lc (.rn (Qa3 rfl (Qa0 Qai _))) (lc (.rn (Qa3 rfl (Qa0 Qa2 _))) (lc (.rn (Qa3 rfl (Qa0 Qag _))) ln))) (qb (lc rwl (lc (rnd Qa1) (lcc (lcc (lc (rnd Qag) ln))))) (qc .tok (qc .tok (qc .tok qn)))))))) (ih ((([]:List Qaa)++y119)++(([x140]).take 1),w64 (y120+1),y121,y122,y123) h)
       ·exact wfn hc130<|Qbg<|Qay<|Qay<|Qbf rfl<|thn<|⟨(y119,y121,y122,y123),h,(mto (n:=209) [(1,(.dat 1 (p1.map Qad))),(2,(Qex p2)),(3,.ref 0 2 0 0),(6,.ref 1 3 0 0),(9,.ref 2 3 0 0),(10,I y6),(11,I y30),(12,I y8),(13,.ref 3 7 0 0),(14,(.dat 4 (y119.map Qac)))] [0,1,2,3,4,5,6] [(Qhn p0),Qgw,(.own 3 [[(.acc 4 28 1 (y121.map Qae)),(.acc 5 90 4 (y122.map Qax)),(.acc 6 3 1 (y123.map Qad))]]),(Qey x26),.tok,.tok,.tok] hφ0 (pc (rnd Qag) (pc (rnd Qaf) (prr (prr (prr (pw (pw (pw (prr (pc (rnd Qaf) pn)))))))))) (qb (lc (rnd Qao) (lc (rnd Qab) ln)) (qb (lcc (lc rwl ln)) (qb (lc (.rn (Qa3 rfl (Qa0 Qai _))) (lc (.rn (Qa3 rfl (Qa0 Qa2 _))) (lc (.rn (Qa3 rfl (Qa0 Qag _))) ln))) (qb (lc rwl (lc (rnd Qa1) (lcc (lcc (lc (rnd Qag) ln))))) (qc .tok (qc .tok (qc .tok qn))))))))⟩
     ·skip
      refine wxz ?_
      refine bfe h (fun hc146 h=>?_) fun hc146 h=>?_
      ·refine wft hc146 ?_
       obtain⟨hs147,h⟩:=cko h
       exact wx tbk [(4,rp [(.tmp 39,(Qex p2)),(.tmp 40,I y7),(.tmp 42,(I (w64 (y7+1))))] (Q1e p2 y7))] ⟨Qit (k:=.i64) (k':=.i64) (lo:=some (.tmp 40)) (hi:=some (.tmp 42)) (l:=y7) (hh:=w64 (y7+1)) rfl underlying28 ti89 rfl (fun e=>nomatch e) (fun e=>nomatch e) (Qt2 hs147) (Qt1 hs147) (Q5d Qac hs147) (Zsy Qac),tv⟩<|wxz1<|thn<|⟨(w64 (y7+1),(p2.drop y7.toNat).take ((w64 (y7+1)).toNat-y7.toNat),y9,y10,y11),h,(mto (n:=209) [(1,(.dat 1 (p1.map Qad))),(2,(Qex p2)),(3,.ref 0 2 0 0),(6,.ref 1 3 0 0),(9,.ref 2 3 0 0),(10,I y6),(11,(I (w64 (y7+1)))),(12,I y8),(13,.ref 6 7 0 0),(14,(Q1e p2 y7))] [0,1,2,6,3,4,5] [(Qhn p0),Qgw,(Qr1 y9 y10 y11),(Qey x26),.tok,.tok,.tok] hφ0 (pc (rnd Qag) (pc (rnd Qaf) (prr (prr (prr (pw (pw (pw (prr (pc (rnd Qaf) pn)))))))))) (qb (lc (rnd Qao) (lc (rnd Qab) ln)) (qb (lcc (lc rwl ln)) (qb (lc (.rn (Qa3 rfl (Qa0 Qai _))) (lc (.rn (Qa3 rfl (Qa0 Qa2 _))) (lc (.rn (Qa3 rfl (Qa0 Qag _))) ln))) (qb (lc rwl (lc (rnd Qa1) (lcc (lcc (lc (rnd Qag) ln))))) (qc .tok (qc .tok (qc .tok qn))))))))⟩
      ·exact wfn hc146<|Qaq<|thn<|⟨(y7,[],y9,y10,y11),h,(mto (n:=209) [(1,(.dat 1 (p1.map Qad))),(2,(Qex p2)),(3,.ref 0 2 0 0),(6,.ref 1 3 0 0),(9,.ref 2 3 0 0),(10,I y6),(11,I y7),(12,I y8),(13,.ref 6 7 0 0),(14,nilS)] [0,1,2,6,3,4,5] [(Qhn p0),Qgw,(Qr1 y9 y10 y11),(Qey x26),.tok,.tok,.tok] hφ0 (pc (rnd Qag) (pc (rnd Qaf) (prr (prr (prr (pw (pw (pw (prr (pc (.nil _) pn)))))))))) (qb (lc (rnd Qao) (lc (rnd Qab) ln)) (qb (lcc (lc rwl ln)) (qb (lc (.rn (Qa3 rfl (Qa0 Qai _))) (lc (.rn (Qa3 rfl (Qa0 Qa2 _))) (lc (.rn (Qa3 rfl (Qa0 Qag _))) ln))) (qb (lc rwl (lc (rnd Qa1) (lcc (lcc (lc (rnd Qag) ln))))) (qc .tok (qc .tok (qc .tok qn))))))))⟩
   ·exact wfn hc19<|Qbg<|Qay<|Qay<|Qbf rfl<|thn<|⟨(y6,y9,y10,y11),h,(mto (n:=209) [(6,.ref 1 3 0 0),(9,.ref 2 3 0 0),(10,I y6)] [1,2,3,4,5] [Qgw,(Qr1 y9 y10 y11),.tok,.tok,.tok] hφ0 (prr (prr (pw pn))) (qb (lcc (lc rwl ln)) (qb (lc (.rn (Qa3 rfl (Qa0 Qai _))) (lc (.rn (Qa3 rfl (Qa0 Qa2 _))) (lc (.rn (Qa3 rfl (Qa0 Qag _))) ln))) (qc .tok (qc .tok (qc .tok qn))))))⟩
end
section
open Go.RowKit
theorem Q39 (N:Nat) {r:GRow}{s:Qaa}(hr:RowV r) (hs:StrV s):Qjk N r s=some (flG r s):=by
 have hw:=Zgr hr hs
 have hc:=Qr6 hr hs
 obtain⟨l0,l1,lv,v1,s0,s1⟩:=hr
 obtain⟨m0,m1,h0,h1,q0,q1,_,_⟩:=hs
 have p1:=bdp m0 m1 s0 s1 (by omega)
 have hd:((r.Vapour-r.Liquid) != 0)=true:=by simp;omega
 unfold Qjk
 simp only[hw.a,hw.b,hw.c,hw.d,Option.bind_some,Qbi,hd,chk,cond_true]
 unfold flG
 have none0:∀(x:Int),w64 (s.Silica-(if w64 (s.Silica-w64 (s.Mass*r.Silica))>0 then w64 (s.Silica-w64 (s.Mass*r.Silica)) else 0))=min (s.Mass*r.Silica) s.Silica∧(if w64 (s.Silica-w64 (s.Mass*r.Silica))>0 then w64 (s.Silica-w64 (s.Mass*r.Silica)) else 0)=s.Silica-min (s.Mass*r.Silica) s.Silica:=fun _=>by
  rw[Qbp (x:=s.Mass*r.Silica) (by omega) (by omega),Qbp (x:=s.Silica-s.Mass*r.Silica) (by omega) (by omega)]
  constructor
  ·rw[Qbp]<;>(repeat split)<;>omega
  ·split<;>omega
 have none0:=none0 0
 rcases hc with ⟨a,b⟩ |⟨a,b,c,d⟩ |⟨a,b,c,d,e,g1,g2⟩
 ·rw[b,if_pos rfl,decide_eq_false (show ¬s.Heat-s.Mass*r.Liquid>0 by omega)]
  simp only[cond_false,show decide ((0:Int)>0)=false from rfl]
  have k:(bif (0:Int)==s.Mass then(some ⟨⟨s.Mass,s.Heat,min (s.Mass*r.Silica) s.Silica,s.Gas⟩,⟨0,0,0,0⟩,0,0⟩:Option Qfh) else none)=(bif (0:Int)==s.Mass then(some ⟨⟨s.Mass,s.Heat,min (s.Mass*r.Silica) s.Silica,s.Gas⟩,⟨0,0,0,0⟩,0,0⟩:Option Qfh) else none):=rfl
  rw[none0.1,none0.2]
  have:(if 0<s.Mass then max (s.Heat-s.Mass*r.Liquid) 0 else 0)=0:=by split<;>omega
  rw[this]
  cases (0:Int)==s.Mass<;>rfl
 ·rw[decide_eq_true (show s.Heat-s.Mass*r.Liquid>0 from a),decide_eq_true (show s.Heat≥s.Mass*r.Vapour from b),c,if_neg (show ¬s.Mass=0 by omega),if_pos rfl]
  simp only[cond_true,beq_self_eq_true,decide_eq_true (show s.Mass>0 from d)]
 ·rw[decide_eq_true (show s.Heat-s.Mass*r.Liquid>0 from a),decide_eq_false (show ¬s.Heat≥s.Mass*r.Vapour by omega),←c]
  generalize hm:stm r s=m at *
  rw[Qbp (x:=m) (by omega) (by omega),show(m==s.Mass)=false by simp;omega]
  simp only[cond_true,cond_false]
  by_cases z:m=0
  ·subst z
   simp only[show decide ((0:Int)>0)=false from rfl,cond_false,if_true]
   rw[none0.1,none0.2,if_pos (show 0<s.Mass from e)]
   congr 2
   omega
  ·rw[decide_eq_true (show m>0 by omega),if_neg z,if_neg (show ¬m=s.Mass by omega)]
   have k1:=bdp d (show m≤1000000 by omega) (show 0≤r.Vapour by omega) v1 (by omega)
   have k2:=bdp (show 0≤s.Mass-m by omega) (show s.Mass-m≤1000000 by omega) s0 s1 (by omega)
   have k3:=bdp (show 0≤s.Mass-m by omega) (show s.Mass-m≤1000000 by omega) l0 l1 (by omega)
   simp only[cond_true]
   rw[Qbp (x:=s.Mass-m) (by omega) (by omega),Qbp (x:=m*r.Vapour) (by omega) (by omega),Qbp (x:=s.Heat-m*r.Vapour) (by omega) (by omega),Qbp (x:=(s.Mass-m)*r.Silica) (by omega) (by omega),Qbp (x:=(s.Mass-m)*r.Liquid) (by omega) (by omega),Qbp (x:=s.Heat-m*r.Vapour-(s.Mass-m)*r.Liquid) (by omega) (by omega),Qbp (x:=s.Silica-(s.Mass-m)*r.Silica) (by omega) (by omega)]
   have j1:w64 (s.Silica-(if s.Silica-(s.Mass-m)*r.Silica>0 then s.Silica-(s.Mass-m)*r.Silica else 0))=min ((s.Mass-m)*r.Silica) s.Silica:=by
    rw[Qbp]<;>(repeat split)<;>omega
   have j2:(if s.Silica-(s.Mass-m)*r.Silica>0 then s.Silica-(s.Mass-m)*r.Silica else 0)=s.Silica-min ((s.Mass-m)*r.Silica) s.Silica:=by split<;>omega
   rw[j1,j2]
end
section
open Go.RowKit
theorem Q1h (a b:Int):w64 (w64 a-b)=w64 (a-b):=by
 unfold w64
 rw[IntKind.wrap_i64,IntKind.wrap_i64,IntKind.wrap_i64]
 omega
theorem Zcn (N:Nat) (l:List Qaa) (k:Int×Int×Int×Int→Option Qaa) (hl:l.length≤1000000):∀(n i:Nat) (a b c d:Int),(l.drop i).length<n →
  Qf4 N l k n i (w64 a) (w64 b) (w64 c) (w64 d)=k (w64 (a+(totS (l.drop i)).Mass),w64 (b+(totS (l.drop i)).Heat),w64 (c+(totS (l.drop i)).Silica),w64 (d+(totS (l.drop i)).Gas)):=by
 intro n
 induction n with
 |zero=>intro i _ _ _ _ h;cases h
 |succ n ih=>
  intro i a b c d h
  rw[Qf4]
  cases hd:l.drop i with
  |nil=>
   have:=Qbw hd
   simp[show ¬((i:Int)<l.length) from by omega,totS]
  |cons x q=>
   obtain⟨hg,hd',hlt⟩:=Qbh hd
   simp only[dlI hlt,cond_true,Qb0 hg,Option.bind_some,Qpe]
   rw[w64S (i:=i) (by omega),ih (i+1) _ _ _ _ (dlt hd hd' h),hd']
   simp only[totS,List.map_cons,List.sum_cons,Int.add_assoc]
theorem Q33 {N:Nat}{l:List Qaa}(hl:l.length≤1000) (hN:1001≤N):Qiz N l=some (totW l):=by
 unfold Qiz
 simp only[Qbi]
 have:=Zcn N l (fun x=>match x with |(y1,y2,y3,y4)=>some (⟨y1,y2,y3,y4⟩:Qaa)) (by omega) N 0 0 0 0 0 (by simp;omega)
 rw[Qy3,List.drop_zero] at this
 refine this.trans ?_
 simp[totW]
section
variable {N : Nat} {s : Qaa} {ws : List Int} (hs : StrV s) (h : WtsV ws) (hN : 1001 ≤ N)
include h in
theorem Q3t (k:Int→Option (List Qaa×Qh2)):∀(n i:Nat) (a:Int),(ws.drop i).length<n→0≤a→a≤1000*i→Qe8 N ws k n a i=k (a+(ws.drop i).sum):=by
 intro n
 induction n with
 |zero=>intro i _ h;cases h
 |succ n ih=>
  intro i a hn s0 s1
  rw[Qe8]
  cases hd:ws.drop i with
  |nil=>
   have:=Qbw hd
   simp[show ¬((i:Int)<ws.length) from by omega]
  |cons x l=>
   obtain⟨hg,hd',hlt⟩:=Qbh hd
   have ha:=h.w x (List.mem_of_getElem? hg)
   have:=h.l2
   simp only[dlI hlt,cond_true,Qb0 hg,Option.bind_some,List.sum_cons]
   rw[Qbp (x:=(i:Int)+1) (by omega) (by omega),Qbp (x:=a+x) (by omega) (by omega),show(i:Int)+1=((i+1:Nat):Int) by omega,ih (i+1) (a+x) (by rw[hd'];rw[hd] at hn;simp at hn;omega) (by omega) (by omega),hd',Int.add_assoc]
include hs h in
theorem Q9h (k:Int×List Int→Option (List Qaa×Qh2)):∀(n i:Nat) (r:Int) (o:List Int),(ws.drop i).length<n→i≤ws.length→o.length=ws.length-i→-1000000*(i:Int)≤r→r≤1000000 →
  Qe9 N s ws ws.sum k n r i (((ws.take i).map fun w=>s.Mass*w/ws.sum)++o)=k (r-((ws.drop i).map fun w=>s.Mass*w/ws.sum).sum,Qo9 s.Mass ws):=by
 intro n
 induction n with
 |zero=>intro i _ _ h;cases h
 |succ n ih=>
  intro i r o hn hi ho r0 r1
  rw[Qe9]
  cases hd:ws.drop i with
  |nil=>
   have:=Qbw hd
   have e:o=[]:=List.length_eq_zero_iff.1 (by omega)
   simp[show ¬((i:Int)<ws.length) from by omega,e,List.take_of_length_le this,Qo9]
  |cons a l=>
   obtain⟨hg,hd',hlt⟩:=Qbh hd
   have ha:=h.w a (List.mem_of_getElem? hg)
   have hl2:=h.l2
   have h0:=hs.m0
   have h1:=hs.m1
   obtain⟨p0,p1⟩:=h.sum
   obtain⟨x,o',rfl⟩:∃x o',o=x::o':=by
    cases o with
    |nil=>simp at ho;omega
    |cons x o'=>exact⟨x,o',rfl⟩
   have hb:=Qsx h h0 (s.Mass*a/ws.sum) (List.mem_map.2 ⟨a,List.mem_of_getElem? hg,rfl⟩)
   have hp:=bdp h0 h1 ha.1 ha.2 (by omega)
   have hlt':((ws.take i).map fun w=>s.Mass*w/ws.sum).length=i:=by simp;omega
   have e2:∀y,(((ws.take i).map fun w=>s.Mass*w/ws.sum)++y::o')[i]? = some y:=fun y=>by rw[List.getElem?_append_right (by omega),hlt'];simp
   have e3:(((ws.take i).map fun w=>s.Mass*w/ws.sum)++x::o').set i (s.Mass*a/ws.sum)=((ws.take i).map fun w=>s.Mass*w/ws.sum)++(s.Mass*a/ws.sum)::o':=by
    rw[List.set_append_right _ _ (by omega),hlt',Nat.sub_self,List.set_cons_zero]
   have e5:((ws.take i).map fun w=>s.Mass*w/ws.sum)++(s.Mass*a/ws.sum)::o'=((ws.take (i+1)).map fun w=>s.Mass*w/ws.sum)++o':=by
    rw[List.take_add_one,hg];simp
   have e4:((i:Int):Int).toNat=i:=by omega
   have c1:(decide ((0:Int)≤(i:Int))&&decide (i<(ws.length:Int).toNat))=true:=by simp;omega
   have ev:w64 ((w64 (s.Mass*a)).tdiv ws.sum)=s.Mass*a/ws.sum:=by
    rw[Qbp (x:=s.Mass*a) (by omega) (by omega),Int.tdiv_eq_ediv_of_nonneg hp.1,Qbp (by omega) (by omega)]
   simp only[dlI hlt,cond_true,Qb0 hg,Option.bind_some,chk,show(ws.sum != 0)=true from by rw[bne_iff_ne];omega,e4,c1,e2,ev,e3]
   rw[Qbp (x:=(i:Int)+1) (by omega) (by omega),Qbp (x:=r-s.Mass*a/ws.sum) (by omega) (by omega),show(i:Int)+1=((i+1:Nat):Int) by omega,e5,ih (i+1) _ o' (by rw[hd'];rw[hd] at hn;simp at hn;omega) (by omega) (by simp at ho;omega) (by omega) (by omega),hd',List.map_cons,List.sum_cons]
   congr 2
   omega
theorem Zjc (key:Int→Int) (ls:List Int) (mk:List Bool) (d:Nat):-1≤Qm6 key ls mk d∧Qm6 key ls mk d<d:=by
 rcases Qty key ls mk d with ⟨_,e⟩ |⟨b,hb,e,_⟩<;>rw[e]<;>omega
include hs h in
theorem Ze7 (mk:List Bool) (hm:mk.length=ws.length) (k:Int→Option (List Qaa×Qh2)):∀(n i:Nat),ws.length-i<n→i≤ws.length →
  Qdc N s ws ws.sum mk k n (Qm6 (rkey s.Mass ws.sum) ws mk i) i=k (Qm6 (rkey s.Mass ws.sum) ws mk ws.length):=by
 intro n
 induction n with
 |zero=>intro i h;cases h
 |succ n ih=>
  intro i hn hi
  have hl2:=h.l2
  have h0:=hs.m0
  have h1:=hs.m1
  obtain⟨p0,p1⟩:=h.sum
  rw[Qdc]
  by_cases hlt:i<ws.length
  ·have hgm:mk[i]? = some (mk.getD i false):=by rw[List.getD_eq_getElem?_getD,List.getElem?_eq_getElem (by omega)];rfl
   have hgw:∀j:Nat,j<ws.length→ws[j]? = some (ws.getD j 0):=fun j hj=>by rw[List.getD_eq_getElem?_getD,List.getElem?_eq_getElem hj];rfl
   have c1:(decide ((0:Int)≤(i:Int))&&decide (i<ws.length))=true:=by simp;omega
   have hih:=ih (i+1) (by omega) hlt
   have hrk:∀x∈ws,(w64 (s.Mass*x)).tmod ws.sum=rkey s.Mass ws.sum x:=fun x hx=>by
    have hx':=h.w x hx
    have hp:=bdp h0 h1 hx'.1 hx'.2 (by omega)
    rw[Qbp (by omega) (by omega),Int.tmod_eq_emod_of_nonneg hp.1]
    rfl
   simp only[show decide ((i:Int)<(ws.length:Int))=true from by simpa using hlt,cond_true,chk,Int.toNat_natCast,c1,hgm,Option.bind_some]
   rw[w64S (i:=i) (by omega)]
   rw[Qm6] at hih
   cases hmk:mk.getD i false with
   |true=>
    rw[if_neg (by rw[hmk];simp)] at hih
    simp only[Bool.not_true,cond_false]
    exact hih
   |false=>
    simp only[Bool.not_false,cond_true]
    by_cases hb:Qm6 (rkey s.Mass ws.sum) ws mk i<0
    ·rw[if_pos ⟨hmk,.inl hb⟩] at hih
     rw[decide_eq_true hb,cond_true]
     exact hih
    ·have hbb:=Zjc (rkey s.Mass ws.sum) ws mk i
     rw[decide_eq_false hb,cond_false]
     have g1:=hgw i hlt
     have g2:=hgw (Qm6 (rkey s.Mass ws.sum) ws mk i).toNat (by omega)
     have g2':getI ws (Qm6 (rkey s.Mass ws.sum) ws mk i)=some (ws.getD (Qm6 (rkey s.Mass ws.sum) ws mk i).toNat 0):=by
      unfold getI;rw[if_pos (by omega),g2]
     simp only[Qb0 g1,g2',Option.bind_some,show(ws.sum != 0)=true from by rw[bne_iff_ne];omega,cond_true,hrk _ (List.mem_of_getElem? g1),hrk _ (List.mem_of_getElem? g2)]
     by_cases hc:rkey s.Mass ws.sum (ws.getD i 0)>rkey s.Mass ws.sum (ws.getD (Qm6 (rkey s.Mass ws.sum) ws mk i).toNat 0)
     ·rw[if_pos ⟨hmk,.inr (by omega)⟩] at hih
      rw[decide_eq_true hc,cond_true]
      exact hih
     ·rw[if_neg (fun hh=>hh.2.elim hb (fun h3=>hc (by omega)))] at hih
      rw[decide_eq_false hc,cond_false]
      exact hih
  ·have e:i=ws.length:=by omega
   subst e
   rw[show decide ((ws.length:Int)<(ws.length:Int))=false by simp,cond_false]
include hs h hN in
theorem Q8z {L:List Int}(hp:L.Perm (ixs ws.length)) (hL:L.Pairwise (Qlv (rkey s.Mass ws.sum) ws)) (k:List Int→Option (List Qaa×Qh2)):∀(n j q:Nat) (o:List Int),j<n→q+j≤L.length→o.length=ws.length→(∀x∈o,0≤x∧x≤1000000+q) →
  Qfa N s ws ws.sum k n j o ((L.take q).foldl mark (List.replicate ws.length false))=k (((L.drop q).take j).foldl bump o):=by
 intro n
 induction n with
 |zero=>intro j q o h;cases h
 |succ n ih=>
  intro j q o hn hq ho hob
  have hlen:=hp.length_eq
  rw[Qi5] at hlen
  have hl2:=h.l2
  rw[Qfa]
  cases j with
  |zero=>simp
  |succ j=>
   have hr:∀x∈L,0≤x∧x<ws.length:=fun x hx=>Qrh.1 (hp.mem_iff.1 hx)
   have hml:((L.take q).foldl mark (List.replicate ws.length false)).length=ws.length:=by rw[Q2c];simp
   have hb:Qm6 (rkey s.Mass ws.sum) ws ((L.take q).foldl mark (List.replicate ws.length false)) ws.length=L[q]'(by omega):=Qye hL (fun i hi=>hp.mem_iff.2 (Qrh.2 ⟨by omega,by omega⟩)) hr (fun i hi=>Qx6 hr i hi) (by omega)
   have hbl:=Ze7 (N:=N) hs h _ hml
   simp only[Qbi,show decide (((j+1:Nat):Int)>0)=true from decide_eq_true (by omega),cond_true]
   have:=fun k=>hbl k N 0 (by omega) (Nat.zero_le _)
   rw[show Qm6 (rkey s.Mass ws.sum) ws ((L.take q).foldl mark (List.replicate ws.length false)) 0=-1 from rfl] at this
   refine(this _).trans ?_
   rw[hb]
   obtain⟨x0,x1⟩:=hr (L[q]'(by omega)) (List.getElem_mem _)
   generalize hz:L[q]'(by omega)=z at x0 x1
   have c1:(decide (0≤z)&&decide (z.toNat<(ws.length:Int).toNat))=true:=by simp;omega
   have g1:∃b,((L.take q).foldl mark (List.replicate ws.length false))[z.toNat]? = some b:=⟨_,List.getElem?_eq_getElem (by omega)⟩
   obtain⟨b,g1⟩:=g1
   have g2:o[z.toNat]? = some (o.getD z.toNat 0):=by rw[List.getD_eq_getElem?_getD,List.getElem?_eq_getElem (by omega)];rfl
   have hxb:=hob _ (List.mem_of_getElem? g2)
   simp only[chk,c1,cond_true,g1,g2,Option.bind_some]
   rw[Qbp (x:=((j+1:Nat):Int)-1) (by omega) (by omega),Qbp (x:=o.getD z.toNat 0+1) (by omega) (by omega),show(((j+1:Nat):Int)-1)=(j:Int) by omega]
   have ht:mark ((L.take q).foldl mark (List.replicate ws.length false)) z=(L.take (q+1)).foldl mark (List.replicate ws.length false):=by
    rw[List.take_add_one,List.getElem?_eq_getElem (by omega),hz,List.foldl_append]
    rfl
   have hih:=ih j (q+1) (bump o z) (by omega) (by omega) (by rw[Qkz];exact ho) (fun y hy=>by
    rcases List.mem_or_eq_of_mem_set hy with hy |rfl
    ·have:=hob y hy;omega
    ·omega)
   rw[←ht] at hih
   refine hih.trans ?_
   rw[List.drop_eq_getElem_cons (show q<L.length by omega),hz,List.take_succ_cons,List.foldl_cons]
include hs in
theorem Qzl {n m:Int}(hn:0≤n) (hn':n≤10000000000) (h0:0≤m) (h1:m≤s.Mass):Qje N n m s.Mass=some (n*m/mx s):=by
 have hM:=hs.m1
 have hM0:=hs.m0
 have hp:=bdp hn hn' h0 (show m≤1000000 by omega) (by omega)
 have hb:=Qv6 hM0 h0 h1 hn
 unfold Qje
 by_cases hz:s.Mass=0
 ·have hm:m=0:=by omega
  rw[hz,hm,Int.mul_zero,Int.zero_ediv];rfl
 ·have hx:mx s=s.Mass:=by unfold mx;split<;>omega
  rw[hx] at hb ⊢
  rw[show(s.Mass==0)=false by simpa using hz,cond_false,Qbp (x:=n*m) (by omega) (by omega),Int.tdiv_eq_ediv_of_nonneg hp.1,Qbp (by omega) (by omega)]
  rw[show(s.Mass != 0)=true by simpa using hz]
  rfl
include hs h in
theorem Q4d (k:List Qaa×Int×Int×Int→Option (List Qaa×Qh2)) (l:List Int) (hl:l.length=ws.length) (hb:∀m∈l,0≤m∧m≤s.Mass):∀(n i:Nat) (acc:List Qaa) (a b c:Int),(l.drop i).length<n→acc.length=i →
  Qfb N s ws l k n acc i (w64 a) (w64 b) (w64 c)=k (acc++(l.drop i).map (Qto s),w64 (a-(totS ((l.drop i).map (Qto s))).Heat),w64 (b-(totS ((l.drop i).map (Qto s))).Silica),w64 (c-(totS ((l.drop i).map (Qto s))).Gas)):=by
 intro n
 induction n with
 |zero=>intro i _ _ _ _ h;cases h
 |succ n ih=>
  intro i acc a b c hn ha
  have hl2:=h.l2
  rw[Qfb]
  cases hd:l.drop i with
  |nil=>
   have:=Qbw hd
   simp[show ¬((i:Int)<ws.length) from by omega,totS]
  |cons m q=>
   obtain⟨hg,hd',hlt⟩:=Qbh hd
   obtain⟨m0,m1⟩:=hb m (List.mem_of_getElem? hg)
   have a1:=hs.m1
   have c1:(decide ((0:Int)≤(i:Int))&&decide (i<ws.length))=true:=by simp;omega
   simp only[show decide ((i:Int)<ws.length)=true from by simp;omega,cond_true,chk,Int.toNat_natCast,c1,hg,Option.bind_some,Qzl (N:=N) hs hs.h0 (by have:=hs.h1;omega) m0 m1,Qzl (N:=N) hs hs.s0 (by have:=hs.s1;omega) m0 m1,Qzl (N:=N) hs hs.g0 (by have:=hs.g1;omega) m0 m1,Q1h]
   have hc:decide ((acc.length+[(⟨m,s.Heat*m/mx s,s.Silica*m/mx s,s.Gas*m/mx s⟩:Qaa)].length)*32≤140737488355328)=true:=by simp;omega
   rw[hc,cond_true,w64S (i:=i) (by omega),
    ih (i+1) _ _ _ _ (by rw[hd'];rw[hd] at hn;simp at hn;omega) (by simp[ha]),hd',List.append_assoc,List.map_cons,Qnx]
   simp only[Qto,Int.sub_sub]
   rfl
include hs h hN in
theorem Q1p:Qip N s ws=some (Qho s ws,Qkc s ws):=by
 have hl1:=h.l1
 have hl2:=h.l2
 have h0:=hs.m0
 have h1:=hs.m1
 obtain⟨L,hp,hL⟩:=Qvy h h0 h1
 have hlen:=hp.length_eq
 rw[Qi5] at hlen
 have hb:=Qzs h h0
 unfold Qip
 simp only[Qbi]
 refine(Q3t h _ N 0 0 (by simp;omega) (by omega) (by omega)).trans ?_
 rw[List.drop_zero,Int.zero_add]
 simp only[chk]
 rw[show(decide ((0:Int)≤(ws.length:Int))&&decide (8*(ws.length:Int)≤281474976710656)&&decide ((ws.length:Int)≤9223372036854775807))=true from by simp;omega,cond_true,show(decide ((0:Int)≤(ws.length:Int))&&decide (1*(ws.length:Int)≤281474976710656)&&decide ((ws.length:Int)≤9223372036854775807))=true from by simp;omega]
 simp only[cond_true]
 have eo:=fun k=>Q9h (N:=N) hs h k N 0 s.Mass (List.replicate (ws.length:Int).toNat 0) (by simp;omega) (by omega) (by simp) (by omega) h1
 simp only[List.take_zero,List.map_nil,List.nil_append,List.drop_zero] at eo
 refine(eo _).trans ?_
 dsimp only
 have hL2:s.Mass-(ws.map fun w=>s.Mass*w/ws.sum).sum=((Qo7 s.Mass ws).toNat:Int):=by
  have:s.Mass-(ws.map fun w=>s.Mass*w/ws.sum).sum=Qo7 s.Mass ws:=rfl
  omega
 rw[hL2]
 have hpk:=fun k=>Q8z (N:=N) hs h hN hp hL k N (Qo7 s.Mass ws).toNat 0 (Qo9 s.Mass ws) (by omega) (by omega) (Qkh _ _) (fun x hx=>by have:=Qsx h h0 x hx;omega)
 simp only[List.take_zero,List.foldl_nil,List.drop_zero] at hpk
 rw[show(ws.length:Int).toNat=ws.length by omega]
 refine(hpk _).trans ?_
 have hm:(L.take (Qo7 s.Mass ws).toNat).foldl bump (Qo9 s.Mass ws)=Qil s.Mass ws:=by
  rw[Qil,Qok h h0 hp hL]
 rw[hm]
 have hK:=Qjo hs h
 obtain⟨_,k1,k2,k3,k4,k5,k6,k7⟩:=hK
 have v:=Qpf (Qjo hs h).v
 have:=v.h0
 have:=v.s0
 have:=v.g0
 have g1:=hs.h1
 have g2:=hs.s1
 have g3:=hs.g1
 have g4:=hs.h0
 have g5:=hs.s0
 have g6:=hs.g0
 have hpl:=fun k=>Q4d (N:=N) hs h k (Qil s.Mass ws) (Qhm _ _) (Qts h h0 h1) N 0 [] s.Heat s.Silica s.Gas (by rw[List.drop_zero,Qhm];omega) rfl
 rw[Qbp (x:=s.Heat) (by omega) (by omega),Qbp (x:=s.Silica) (by omega) (by omega),Qbp (x:=s.Gas) (by omega) (by omega)] at hpl
 refine(hpl _).trans ?_
 rw[List.drop_zero,List.nil_append]
 have e:(Qil s.Mass ws).map (Qto s)=Qho s ws:=rfl
 rw[e]
 unfold Qkc at *
 dsimp only at *
 rw[Qbp (x:=s.Heat-_) (by omega) (by omega),Qbp (x:=s.Silica-_) (by omega) (by omega),Qbp (x:=s.Gas-_) (by omega) (by omega)]
end
end
section
open Go.RowKit
theorem Q8o (N:Nat) (s:List Int) (k:Unit→Option Bool) (hl:s.length≤1000):∀(m i:Nat),(s.drop i).length<m →
  Qdl N k s m i=bif (s.drop i).all (fun x=>btw x 0 1000000000000) then k () else some false:=by
 intro m
 induction m with
 |zero=>intro i h;cases h
 |succ m ih=>
  intro i h
  rw[Qdl]
  cases hd:s.drop i with
  |nil=>
   have:=Qbw hd
   simp[show ¬((i:Int)<s.length) from by omega]
  |cons x l=>
   obtain⟨hg,hd',hlt⟩:=Qbh hd
   simp only[dlI hlt,cond_true,Qb0 hg,Option.bind_some,Q4j,List.all_cons]
   cases btw x 0 1000000000000 with
   |false=>rfl
   |true=>rw[Bool.not_true,cond_false,w64S (i:=i) (by omega),ih (i+1) (dlt hd hd' h),hd',Bool.true_and]
theorem Q8t {N:Nat}{n:GNet}{s:List Int}(hl:s.length≤1000) (hN:1001≤N):Qhu N n s=some (stB n s):=by
 unfold Qhu stB
 simp only[Qbi]
 have:=Q8o N s (fun _=>some ((s.length:Int)==(n.Elements.length:Int))) hl N 0 (by simp;omega)
 rw[List.drop_zero] at this
 refine this.trans ?_
 have e:((s.length:Int)==(n.Elements.length:Int))=decide (s.length=n.Elements.length):=by
  by_cases h:s.length=n.Elements.length
  ·rw[h];simp
  ·rw[decide_eq_false h,beq_eq_false_iff_ne];omega
 rw[e]
 cases s.all fun x=>btw x 0 1000000000000<;>simp
theorem Zcp (N:Nat) (l:List Qaa) (k:Unit→Option Bool) (hl:l.length≤1000):∀(m i:Nat),(l.drop i).length<m →
  Qd7 N l k m i=bif (l.drop i).all strB then k () else some false:=by
 intro m
 induction m with
 |zero=>intro i h;cases h
 |succ m ih=>
  intro i h
  rw[Qd7]
  cases hd:l.drop i with
  |nil=>
   have:=Qbw hd
   simp[show ¬((i:Int)<l.length) from by omega]
  |cons x q=>
   obtain⟨hg,hd',hlt⟩:=Qbh hd
   simp only[dlI hlt,cond_true,Qb0 hg,Option.bind_some,Zc2,List.all_cons]
   cases strB x with
   |false=>rfl
   |true=>rw[Bool.not_true,cond_false,w64S (i:=i) (by omega),ih (i+1) (dlt hd hd' h),hd',Bool.true_and]
theorem Zgy {N:Nat}{l:List Qaa}(hl:l.length≤1000) (hN:1001≤N):Qi9 N l=some (l.all strB):=by
 unfold Qi9
 simp only[Qbi]
 refine(Zcp N l _ hl N 0 (by simp;omega)).trans ?_
 rw[List.drop_zero]
 cases l.all strB<;>rfl
theorem Q9c (N:Nat) (n:GNet) (c:Int) (k:Int→Option Int) (hl:n.Elements.length≤1000):∀(m i:Nat) (a:Int),(n.Elements.drop i).length<m→0≤a→a≤i →
  Qec N n c k m a i=k (a+(((n.Elements.drop i).filter fun x=>decide (x.Kind=c)).length:Int)):=by
 intro m
 induction m with
 |zero=>intro i _ h;cases h
 |succ m ih=>
  intro i a h a0 a1
  rw[Qec]
  cases hd:n.Elements.drop i with
  |nil=>
   have:=Qbw hd
   simp[show ¬((i:Int)<n.Elements.length) from by omega]
  |cons x q=>
   obtain⟨hg,hd',hlt⟩:=Qbh hd
   simp only[dlI hlt,cond_true,Qb0 hg,Option.bind_some]
   rw[w64S (i:=i) (by omega),List.filter_cons]
   by_cases hk:x.Kind=c
   ·rw[show(x.Kind==c)=true by simpa using hk,cond_true,Qbp (x:=a+1) (by omega) (by omega),ih (i+1) _ (dlt hd hd' h) (by omega) (by omega),hd',if_pos (by simpa using hk),List.length_cons]
    congr 1
    omega
   ·rw[show(x.Kind==c)=false by simpa using hk,cond_false,ih (i+1) _ (dlt hd hd' h) (by omega) (by omega),hd',if_neg (by simpa using hk)]
def cntK (n:GNet) (c:Int):Nat:=(n.Elements.filter fun x=>decide (x.Kind=c)).length
theorem Zi7 {N:Nat}{n:GNet}(c:Int) (hl:n.Elements.length≤1000) (hN:1001≤N):Qlm N n c=some (cntK n c:Int):=by
 unfold Qlm
 simp only[Qbi]
 refine(Q9c N n c _ hl N 0 0 (by simp;omega) (Int.le_refl _) (by simp)).trans ?_
 rw[List.drop_zero,Int.zero_add]
 rfl
theorem Ze3 (n:GNet):cntK n 1=wcn n n.Elements.length:=by unfold cntK wcn;rw[List.take_length]
end
section
open Go.RowKit
theorem Qzv {κ β:Type}{k:κ}{f:κ→Option β}{r:Option β}(h:∀k',k'=k→f k'=r):Qbi k f=r:=by
 rw[Qbi]
 exact h k rfl
theorem Q8b (N:Nat) {x:Qam}(hx:Qiw x=true) {d:Int}(h0:0≤d) (h1:d≤9000000000000000000):Qlk N x d=some (widI x d):=by
 obtain⟨a,b,c,e,f,g,_⟩:=Zku hx h0 h1
 unfold Qlk widI
 rw[a,b,f,g]
 rfl
section
variable {N : Nat} {n : GNet} (hs : Ql8 n) (hN : 1001 ≤ N) (hv : NetV n) {ws : List Qaa} (hf : FedV n ws) {i : Nat} {o : List (List Qaa)} {ls : List Qa9} (hI : InvT n ws i o ls) {x : Qam} (hx : n.Elements[i]? = some x)
include hv hI hx in
theorem Q85 (hfr:x.From.length≤25) (k:List Qaa×List (List Qaa)×List Qa9×List Int→Option (Qfg×Int×Int)) (ss:List Int):∀(m j:Nat) (acc:List Qaa),(x.From.drop j).length<m→acc.length≤100+j→j≤25 →
  Qgl N x k m acc j o ls ss=k (acc++(x.From.drop j).map (Qd1 o),o,ls,ss):=by
 intro m
 induction m with
 |zero=>intro j _ h;cases h
 |succ m ih=>
  intro j acc h ha hj
  rw[Qgl]
  cases hd:x.From.drop j with
  |nil=>
   have:=Qbw hd
   simp[show ¬((j:Int)<x.From.length) from by omega]
  |cons p l=>
   obtain⟨hg,hd',hlt⟩:=Qbh hd
   have hpm:=List.mem_of_getElem? hg
   obtain⟨p1,_,_,_,p4,_,_⟩:=hv.port i x p hx hpm
   obtain⟨_,_,r,hr,hr2⟩:=Qp5 hv hI hx hpm
   have g1:getI o p.Element=some r:=by unfold getI;rw[if_pos p1,hr]
   have g2:getI r p.Outlet=some (Qd1 o p):=by unfold getI;rw[if_pos p4,hr2]
   simp only[dlI hlt,cond_true,chk,Qb0 hg,Option.bind_some,g1,g2]
   rw[show decide ((([]:List Qaa).length+acc.length)*32≤140737488355328)=true by simp;omega,show decide (1≤([Qd1 o p]:List Qaa).length)=true from rfl,show decide (((([]:List Qaa)++acc).length+(([Qd1 o p]:List Qaa).take 1).length)*32≤140737488355328)=true by simp;omega]
   simp only[cond_true]
   rw[w64S (i:=j) (by omega),ih (j+1) _ (dlt hd hd' h) (by simp;omega) (by omega),hd']
   simp
end
section
variable {N : Nat} {n : GNet} (hs : Ql8 n) (hN : 1001 ≤ N) (hv : NetV n) {ws : List Qaa} (hf : FedV n ws) {st : List Int} (hst : StV n st)
theorem Q5c {α:Type}(a:List α) (x:α) (w:Nat) (h:a.length≤1000) (hw:w≤1000):decide ((a.length+[x].length)*w≤140737488355328)=true:=by
 rw[decide_eq_true_eq,List.length_singleton]
 have:(a.length+1)*w≤1001*1000:=Nat.mul_le_mul (by omega) hw
 omega
set_option maxHeartbeats 2000000 in
include hs hN hv hf hst in
theorem Q8w (k:Int×List (List Qaa)×List Qa9×List Int→Option (Qfg×Int×Int)):∀(m i:Nat) (o:List (List Qaa)) (ls:List Qa9) (ss:List Int) (y:Int),(n.Elements.drop i).length<m→i≤n.Elements.length→InvT n ws i o ls→ss.length=i→0≤y→y≤1000000*i →
  Qgm N n st ws k m y (wcn n i:Int) i o ls ss =
  Qsv (Qs9 n.Table ((n.Elements.drop i).zip (st.drop i)) (ws.drop (wcn n i)) o ls ss y) (fun a=>some (Zmk,0,(a:Int))) (fun r=>k (r.2.2.2,r.1,r.2.1,r.2.2.1)):=by
 intro m
 induction m with
 |zero=>intro i _ _ _ _ h;cases h
 |succ m ih=>
  intro i o ls ss y h hi hI hss hy0 hy1
  have hsl:=Qxy hst
  have e0:=hs.e
  rw[Qgm]
  cases hd:n.Elements.drop i with
  |nil=>
   have:=Qbw hd
   have hi2:i=n.Elements.length:=by omega
   subst hi2
   rw[show decide ((n.Elements.length:Int)<(n.Elements.length:Int))=false by simp,cond_false,show st.drop n.Elements.length=[] from List.drop_of_length_le (by omega)]
   simp[Qs9,Qsv]
  |cons x l=>
   obtain⟨hg,hd',hlt⟩:=Qbh hd
   obtain⟨d,hgd,d0,d1⟩:=Zkv hst hlt
   have hds:st.drop i=d::st.drop (i+1):=by
    have hi:=(List.getElem?_eq_some_iff.1 hgd).1
    rw[List.drop_eq_getElem_cons hi]
    rw[List.getElem?_eq_getElem hi] at hgd
    cases hgd;rfl
   obtain⟨iv,it⟩:=Zd4 hv hf hI hg
   have hxm:=List.mem_of_getElem? hg
   have hx:=hs.x x hxm
   have hA:=Qpz (hv.alone x hxm)
   have hinl:(insE o (ws.drop (wcn n i)) x).length≤100:=by
    unfold insE
    split
    ·rw[List.length_take];omega
    ·rw[List.length_map];omega
   have hwid:=Q8b N (hv.alone x hxm) d0 (show d≤9000000000000000000 by omega)
   have hwl:=Q6j (n:=n) (i:=i+1)
   have hws:=Qod hg
   have hwn:wcn n n.Elements.length≤18:=by
    unfold wcn
    have:=List.length_filter_le (fun x:Qam=>decide (x.Kind=1)) (n.Elements.take n.Elements.length)
    rw[List.take_length] at this ⊢
    omega
   have hin:∀(j:Int×List Qaa×List (List Qaa)×List Qa9×List Int→Option (Qfg×Int×Int)),
     (bif (x.Kind==1) then chk (decide (0≤(wcn n i:Int))&&decide ((wcn n i:Int)≤w64 ((wcn n i:Int)+1))&&decide (w64 ((wcn n i:Int)+1)≤(ws.length:Int)))<|j (w64 ((wcn n i:Int)+1),(ws.drop (wcn n i:Int).toNat).take ((w64 ((wcn n i:Int)+1)).toNat-(wcn n i:Int).toNat),o,ls,ss) else j ((wcn n i:Int),[],o,ls,ss)) =
     j ((wcn n (i+1):Int),(if x.Kind=1 then(ws.drop (wcn n i)).take 1 else[]),o,ls,ss):=fun j=>by
    by_cases h1:x.Kind=1
    ·rw[if_pos h1] at hws
     have hlt:wcn n i<ws.length:=by rw[hf.len];omega
     rw[show(x.Kind==1)=true by simpa using h1,cond_true,if_pos h1,Qbp (x:=(wcn n i:Int)+1) (by omega) (by omega),hws]
     simp only[chk]
     rw[show(decide (0≤(wcn n i:Int))&&decide ((wcn n i:Int)≤(wcn n i:Int)+1)&&decide ((wcn n i:Int)+1≤(ws.length:Int)))=true by simp;omega,cond_true,show((wcn n i:Int)).toNat=wcn n i by omega,show((wcn n i:Int)+1).toNat-wcn n i=1 by omega]
     rfl
    ·rw[if_neg h1] at hws
     rw[show(x.Kind==1)=false by simpa using h1,cond_false,if_neg h1,hws]
     rfl
   simp only[dlI hlt,cond_true,Qb0 hg,Option.bind_some]
   refine Qzv fun k25 h25=>?_
   refine Qzv fun k35 h35=>?_
   refine(hin k35).trans ?_
   rw[h35]
   dsimp only
   refine Qzv fun k40 h40=>?_
   have hfl:(if x.Kind=1 then(ws.drop (wcn n i)).take 1 else([]:List Qaa)).length≤1:=by
    split
    ·rw[List.length_take];omega
    ·simp
   refine(Q85 (N:=N) hv hI hg hx.1 k40 ss N 0 _ (by simp;omega) (by omega) (by omega)).trans ?_
   have hins:(if x.Kind=1 then(ws.drop (wcn n i)).take 1 else([]:List Qaa))++(x.From.drop 0).map (Qd1 o)=insE o (ws.drop (wcn n i)) x:=by
    unfold insE
    by_cases h1:x.Kind=1
    ·rw[if_pos h1,if_pos h1,hA.well h1];simp
    ·rw[if_neg h1,if_neg h1];simp
   rw[hins,h40]
   dsimp only
   have htot:Qiz N (insE o (ws.drop (wcn n i)) x)=some (totS (insE o (ws.drop (wcn n i)) x)):=by rw[Q33 (by omega) hN,Qq1 iv (by omega)]
   rw[htot,Option.bind_some,Qb0 hgd,Option.bind_some,hwid,Option.bind_some,hds,List.zip_cons_cons,Qs9]
   have hK:=Qzy hv hf hI hg
   have hI2:=Qzx hv hf hI hg hK
   generalize totS (insE o (ws.drop (wcn n i)) x)=s at *
   by_cases hm:s.Mass>widI x d
   ·rw[if_pos hm,decide_eq_true hm,cond_true,hI.lo]
    rfl
   rw[if_neg hm,decide_eq_false hm,cond_false]
   have hw:ws.drop (wcn n (i+1))=if x.Kind=1 then(ws.drop (wcn n i)).drop 1 else ws.drop (wcn n i):=by
    rw[hws]
    split
    ·rw[List.drop_drop]
    ·rfl
   rw[←hw]
   have hlo:=hI.lo
   have hll:=hI.ll
   have hq:=hK.q
   have hqq:=hK.q0
   have hc0:=hK.c0
   have ht0:=hK.t0
   have ht1:=hK.t1
   have hsq:=it.s1
   have hsm:=it.m1
   have hvs:=(Qpf hK.v).s0
   have hih:=ih (i+1) _ _ (ss++[d+(actE n.Table x s).2.1.Scale]) (y+(actE n.Table x s).2.2) (dlt hd hd' h) hlt hI2 (by simp[hss]) (by omega) (by omega)
   rw[hd'] at hih
   have fin:∀(O:List Qaa) (L:Qa9) (Y:Int),(O,L,Y)=actE n.Table x s →
     (chk (decide ((o.length+([O]).length)*24≤140737488355328))<|
      chk (decide (1≤([(⟨L.Heat,L.Silica,L.Gas,L.Scale⟩:Qa9)]).length))<|
      chk (decide ((ls.length+(([(⟨L.Heat,L.Silica,L.Gas,L.Scale⟩:Qa9)]).take 1).length)*32≤140737488355328))<|
      chk (decide ((ss.length+([w64 (d+L.Scale)]).length)*8≤140737488355328))<|
      k25 (y+Y,(wcn n (i+1):Int),o++([O]),ls++(([(⟨L.Heat,L.Silica,L.Gas,L.Scale⟩:Qa9)]).take 1),ss++([w64 (d+L.Scale)]))) =
     Qsv (Qs9 n.Table (l.zip (st.drop (i+1))) (ws.drop (wcn n (i+1))) (o++[(actE n.Table x s).1]) (ls++[(actE n.Table x s).2.1]) (ss++[d+(actE n.Table x s).2.1.Scale]) (y+(actE n.Table x s).2.2)) (fun a=>some (Zmk,0,(a:Int))) (fun r=>k (r.2.2.2,r.1,r.2.1,r.2.2.1)):=fun O L Y e=>by
    rw[←hih,←e,h25]
    rw[←e] at hq hqq hc0 hvs
    dsimp only at hq hqq hc0 hvs
    dsimp only
    rw[Qbp (x:=d+L.Scale) (by omega) (by omega),w64S (i:=i) (by omega)]
    simp only[chk]
    rw[Q5c o O 24 (by omega) (by omega),show decide (1≤([(⟨L.Heat,L.Silica,L.Gas,L.Scale⟩:Qa9)]).length)=true from rfl,show([(⟨L.Heat,L.Silica,L.Gas,L.Scale⟩:Qa9)]).take 1=[L] from rfl,Q5c ls L 32 (by omega) (by omega),Q5c ss _ 8 (by omega) (by omega)]
    rfl
   by_cases h3:x.Kind=3
   ·have e:actE n.Table x s=([⟨s.Mass,s.Heat-Qor x s,s.Silica,s.Gas⟩],⟨Qor x s,0,0,0⟩,0):=by unfold actE;rw[if_pos h3]
    have hc:0≤Qor x s∧Qor x s≤s.Heat:=by
     have:=hA.a3 h3
     have:=it.h0
     unfold Qor;split<;>omega
    have:=it.h1
    have hcl:(if s.Heat<x.Amount then s.Heat else x.Amount)=Qor x s:=rfl
    refine Eq.trans ?_ (fin _ _ _ e.symm)
    rw[show(x.Kind==3)=true by simpa using h3,show(x.Kind==4)=false by rw[h3];rfl,show(x.Kind==5)=false by rw[h3];rfl]
    simp only[Qbi,cond_true,cond_false,hcl,chk,Int.add_zero]
    rw[Qbp (x:=s.Heat-Qor x s) (by omega) (by omega)]
    rfl
   by_cases h4:x.Kind=4
   ·have hlv:=hv.level x hxm
    obtain⟨hgr,hrow⟩:=Q6n hv.tab (Qgb.2 hlv)
    have hgr':getI n.Table x.Level=some (Qfi n.Table x.Level):=hgr
    have hk:=Qz0 (r:=Qfi n.Table x.Level) hrow it
    have hfr:Qjk N (Qfi n.Table x.Level) s=some (flG (Qfi n.Table x.Level) s):=Q39 N hrow it
    have k1:=hk.km
    have k2:=hk.st.m0
    have k3:=hk.wa.m0
    rw[show(x.Kind==3)=false by rw[h4];rfl,show(x.Kind==4)=true by simpa using h4,show(x.Kind==5)=false by rw[h4];rfl]
    simp only[Qbi,cond_true,cond_false,hgr',Option.bind_some,hfr]
    rw[Qbp (x:=y+(flG (Qfi n.Table x.Level) s).Steam.Mass) (by omega) (by omega)]
    by_cases h0:x.Amount=0
    ·have ha:actE n.Table x s=([(flG (Qfi n.Table x.Level) s).Steam,(flG (Qfi n.Table x.Level) s).Water],⟨0,0,0,(flG (Qfi n.Table x.Level) s).Scale⟩,(flG (Qfi n.Table x.Level) s).Steam.Mass):=by
      unfold actE
      rw[if_neg h3,if_pos h4,if_pos h0]
     rw[decide_eq_false (show ¬x.Amount>0 by omega),cond_false]
     have:=fin _ _ _ ha.symm
     clear fin hih
     generalize flG (Qfi n.Table x.Level) s=p at this ⊢
     exact this
    ·have hav:=hA.a4 h4
     have hwt:=Q3y (a:=x.Amount) (by omega) hav.2
     have ha:actE n.Table x s=([totS [(flG (Qfi n.Table x.Level) s).Steam,(Qho (flG (Qfi n.Table x.Level) s).Water [1000-x.Amount,x.Amount]).getD 1 zs],(Qho (flG (Qfi n.Table x.Level) s).Water [1000-x.Amount,x.Amount]).getD 0 zs],
      ⟨(Qkc (flG (Qfi n.Table x.Level) s).Water [1000-x.Amount,x.Amount]).Heat,(Qkc (flG (Qfi n.Table x.Level) s).Water [1000-x.Amount,x.Amount]).Silica,(Qkc (flG (Qfi n.Table x.Level) s).Water [1000-x.Amount,x.Amount]).Gas,(flG (Qfi n.Table x.Level) s).Scale⟩,(flG (Qfi n.Table x.Level) s).Steam.Mass):=by
      unfold actE
      rw[if_neg h3,if_pos h4,if_neg h0]
     rw[decide_eq_true (show x.Amount>0 by omega),cond_true,Qbp (x:=1000-x.Amount) (by omega) (by omega)]
     have hsh:Qip N (flG (Qfi n.Table x.Level) s).Water [1000-x.Amount,x.Amount]=_:=Q1p (N:=N) hk.wa hwt hN
     obtain⟨u,v,hp⟩:=Qvj (s:=(flG (Qfi n.Table x.Level) s).Water) (a:=1000-x.Amount) (b:=x.Amount)
     have hKp:=Qjo hk.wa hwt
     rw[hp] at hsh hKp ha
     have htot2:Qiz N [(flG (Qfi n.Table x.Level) s).Steam,v]=some (totS [(flG (Qfi n.Table x.Level) s).Steam,v]):=by
      rw[Q33 (by simp) hN,Qq1 (fun z hz=>by
       simp at hz
       rcases hz with rfl |rfl
       ·exact hk.st
       ·exact hKp.v _ (by simp)) (by simp)]
     refine(congrArg (fun z=>Option.bind z _) hsh).trans ?_
     simp only[Option.bind_some,show getI [u,v] 1=some v from rfl,show getI [u,v] 0=some u from rfl]
     refine(congrArg (fun z=>Option.bind z _) htot2).trans ?_
     have:=fin _ _ _ ha.symm
     clear fin hih
     exact this
   by_cases h5:x.Kind=5
   ·have e:actE n.Table x s=(Qho s x.Weights,⟨(Qkc s x.Weights).Heat,(Qkc s x.Weights).Silica,(Qkc s x.Weights).Gas,0⟩,0):=by unfold actE;rw[if_neg h3,if_neg h4,if_pos h5]
    have hsh:=Q1p (N:=N) it (hA.w5 h5) hN
    rw[show(x.Kind==3)=false by rw[h5];rfl,show(x.Kind==4)=false by rw[h5];rfl,show(x.Kind==5)=true by simpa using h5]
    simp only[Qbi,cond_true,cond_false,chk,show decide (1≤([s]:List Qaa).length)=true from rfl,hsh,Option.bind_some]
    have:=fin _ _ _ e.symm
    rw[Int.add_zero y] at this
    exact this
   ·have e:actE n.Table x s=([s],⟨0,0,0,0⟩,0):=by unfold actE;rw[if_neg h3,if_neg h4,if_neg h5]
    rw[show(x.Kind==3)=false by simpa using h3,show(x.Kind==4)=false by simpa using h4,show(x.Kind==5)=false by simpa using h5]
    simp only[Qbi,cond_false,chk,show decide (1≤([s]:List Qaa).length)=true from rfl,cond_true]
    have:=fin _ _ _ e.symm
    rw[Int.add_zero y] at this
    exact this
include hs hN hv hf hst in
theorem Q6p:Qn0 N n st ws=some (Qsv (Qxd n st ws) (fun a=>(Zmk,0,(a:Int))) (fun r=>(⟨r.1,r.2.1,r.2.2.1⟩,r.2.2.2,-1))):=by
 have e0:=hs.e
 unfold Qn0
 simp only[Qbi]
 have:=Q8w hs hN hv hf hst (fun x=>match x with |(y1,y2,y3,y4)=>some ((⟨y2,y3,y4⟩:Qfg),y1,(-1))) N 0 [] [] [] 0 (by simp;omega) (Nat.zero_le _) (Qwh n ws) rfl (Int.le_refl _) (by simp)
 simp only[List.drop_zero,show wcn n 0=0 from rfl] at this
 refine this.trans ?_
 unfold Qxd
 cases Qs9 n.Table (n.Elements.zip st) ws [] [] [] 0<;>rfl
end
end
section
open Go.RowKit
theorem Q7a (i:Nat):∀(r:List Qaa) (j:Nat),Qrk i j r=(List.range r.length).map fun k:Nat=>(((i:Int),((j+k:Nat):Int)),r.getD k zs)
 |[],_=>rfl
 |x::r,j=>by
  rw[Qrk,Q7a i r (j+1),List.length_cons,List.range_succ_eq_map,List.map_cons,List.map_map]
  congr 1
  apply List.map_congr_left
  intro k _
  simp[show j+1+k=j+(k+1) by omega]
theorem Qya (O:List (List Qaa)):∀(els:List Qam) (o pre:List (List Qaa)),O=pre++o→els.length=o.length→(∀(k:Nat) y r,els[k]? = some y→o[k]? = some r→(r.length:Int)=outl y) →
  Qir pre.length o=(Qmo pre.length els).map fun p=>(pq p,Qd1 O p)
 |[],[],_,_,_,_=>rfl
 |x::els,r::o,pre,hO,hl,hr=>by
  have h1:=hr 0 x r rfl rfl
  have ih:=Qya O els o (pre++[r]) (by rw[hO];simp) (by simpa using hl) fun k y q hy hq=>hr (k+1) y q (by simpa using hy) (by simpa using hq)
  rw[List.length_append,List.length_singleton] at ih
  rw[Qir,Qmo,List.map_append,ih,Q7a,List.map_map,show(outl x).toNat=r.length by omega]
  congr 1
  apply List.map_congr_left
  intro k hk
  have hk':=List.mem_range.1 hk
  have hg:O.getD pre.length []=r:=by rw[hO,List.getD_eq_getElem?_getD,List.getElem?_append_right (Nat.le_refl _),Nat.sub_self];rfl
  simp only[Function.comp,pq,Qd1,Int.toNat_natCast,hg,Nat.zero_add]
 |[],_::_,_,_,h,_=>by simp at h
 |_::_,[],_,_,h,_=>by simp at h
section
variable {n : GNet} (hv : NetV n) {ws : List Qaa} {o : List (List Qaa)} {ls : List Qa9} (hI : InvT n ws n.Elements.length o ls)
include hI
theorem Zde:Qir 0 o=(Qmo 0 n.Elements).map fun p=>(pq p,Qd1 o p):=Qya o n.Elements o [] rfl hI.lo.symm hI.rows
theorem Zm3 {p:Qa6}(hp:p∈Qim n):0≤p.Element∧0≤p.Outlet∧∃r,o[p.Element.toNat]? = some r∧r[p.Outlet.toNat]? = some (Qd1 o p):=by
 have h1:(pq p,Qd1 o p)∈Qir 0 o:=by
  rw[Zde hI]
  exact List.mem_map.2 ⟨p,(List.mem_filter.1 hp).1,rfl⟩
 obtain⟨a,b,r,c,d⟩:=Qpr.1 h1
 refine⟨by simpa using a,b,r,?_,d⟩
 rw[show(p.Element-((0:Nat):Int)).toNat=p.Element.toNat by simp] at c
 exact c
end
theorem Q1k (N:Nat) (l:List Qaa) (k:List Qaa→Option (List Qaa)) (hl:l.length≤1000):∀(m i:Nat) (acc:List Qaa),(l.drop i).length<m→acc.length=i→Qd9 N l k m acc i=k (acc++l.drop i):=by
 intro m
 induction m with
 |zero=>intro i _ h;cases h
 |succ m ih=>
  intro i acc h ha
  rw[Qd9]
  cases hd:l.drop i with
  |nil=>
   have:=Qbw hd
   simp[show ¬((i:Int)<l.length) from by omega]
  |cons p q=>
   obtain⟨hg,hd',hlt⟩:=Qbh hd
   simp only[dlI hlt,cond_true,Qb0 hg,Ql5,Option.bind_some,chk]
   rw[show decide ((acc.length+[p].length)*32≤140737488355328)=true by simp;omega,cond_true,w64S (i:=i) (by omega),
    ih (i+1) _ (dlt hd hd' h) (by simp[ha]),hd',List.append_assoc]
   rfl
theorem Q8l {N:Nat}{l:List Qaa}(hl:l.length≤1000) (hN:1001≤N):Qja N l=some l:=by
 unfold Qja
 simp only[Qbi]
 refine(Q1k N l _ hl N 0 [] (by simp;omega) rfl).trans ?_
 rw[List.drop_zero,List.nil_append]
theorem Zi4 {N:Nat}{n:GNet}(hs:Ql8 n) (hN:1001≤N):Qg3 N n.Table n.Elements (Q3v n)=some (Qim n):=by
 have e0:=hs.e
 unfold Qg3
 have h1:=Zet hs hN (Q3v n) N 0 (by simp;omega)
 rw[List.drop_zero] at h1
 exact h1
theorem Qpw {n:GNet}(hs:Ql8 n):(Qim n).length≤450:=by
 have e0:=hs.e
 have h2:=Qx2 n.Elements 0 fun x hx=>(hs.x x hx).2
 have h3:=List.length_filter_le (fun p=>!(Q3v n).contains (pq p)) (Qmo 0 n.Elements)
 unfold Qim
 omega
end
section
open Go.RowKit
theorem Zcg:Qjp 2000=some true:=by decide +kernel
end
section
open Go.RowKit
theorem Q2v {N:Nat}{n:GNet}(hs:Ql8 n) (hN:1001≤N) {ws:List Qaa}(hl:ws.length≤1000):Qib N n ws=some (fedI n ws):=by
 have e0:=hs.e
 unfold Qib fedI
 simp only[Qbi,Zi7 1 (show n.Elements.length≤1000 by omega) hN,Option.bind_some,Ze3,Zgy hl hN,Q33 hl hN]
 by_cases h1:ws.length=wcn n n.Elements.length
 ·rw[decide_eq_true h1,show((ws.length:Int) != (wcn n n.Elements.length:Int))=false by rw[bne_eq_false_iff_eq];omega]
  cases ha:ws.all strB with
  |false=>rfl
  |true=>
   have hall:∀s∈ws,StrV s:=fun s h=>Qp2.1 (List.all_eq_true.1 ha s h)
   rw[Qq1 hall hl]
   simp only[cond_false,Bool.not_true,Bool.true_and,cond_true]
   by_cases h2:(totS ws).Mass>1000000
   ·rw[decide_eq_true h2,if_pos h2];rfl
   ·rw[decide_eq_false h2,if_neg h2]
    by_cases h3:(totS ws).Gas>1000000000
    ·rw[decide_eq_true h3,if_pos h3];rfl
    ·rw[decide_eq_false h3,if_neg h3];rfl
 ·rw[decide_eq_false h1,show((ws.length:Int) != (wcn n n.Elements.length:Int))=true by rw[bne_iff_ne];omega];rfl
end
end Go.Proofs.YtmbhnllcfmiajaaGreat
