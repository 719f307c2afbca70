/-
  The texts PSb6, PSc6, PTa6, PTb6, PTc6, PHa, X6, PTown, PTownV, PFlow, PFull, PTakes, PHb, PHl of the proof, one behind the other. No conditions.
-/
import Derived.Test.YtflmombnmnblnaaGreatG4
namespace Go.Proofs.YtflmombnmnblnaaGreat
open _root_.Go.Proofs.Tryz
open Go.RowKit
set_option maxRecDepth 100000
set_option maxHeartbeats 4000000
set_option synthInstance.maxSize 4000
set_option synthInstance.maxHeartbeats 400000
section
def Qrp (key:Int→Int) (ls:List Int) (mk:List Bool):Nat→Int
 |0=>-1
 |d+1=>if mk.getD d false=false∧(Qrp key ls mk d<0∨key (ls.getD (Qrp key ls mk d).toNat 0)<key (ls.getD d 0)) then d else Qrp key ls mk d
theorem Qsa (key:Int→Int) (ls:List Int) (mk:List Bool):∀d,((∀i,i<d→mk.getD i false=true)∧Qrp key ls mk d=-1) ∨
  ∃b:Nat,b<d∧Qrp key ls mk d=b∧mk.getD b false=false∧∀i:Nat,i<d→mk.getD i false=false→i=b∨Qim key ls b i
 |0=>.inl ⟨fun i h=>absurd h (by omega),rfl⟩
 |d+1=>by
  unfold Qrp
  rcases Qsa key ls mk d with ⟨h1,h2⟩ |⟨b,hb,h2,h3,h4⟩
  ·rw[h2]
   cases hm:mk.getD d false with
   |true=>exact .inl ⟨fun i hi=>(Nat.lt_succ_iff_lt_or_eq.1 hi).elim (h1 i) (fun e=>e▸hm),by rw[if_neg (by simp)]⟩
   |false=>
    rw[if_pos ⟨rfl,.inl (by omega)⟩]
    refine .inr ⟨d,by omega,rfl,hm,fun i hi hn=>?_⟩
    rcases Nat.lt_succ_iff_lt_or_eq.1 hi with h |h
    ·rw[h1 i h] at hn;exact absurd hn (by simp)
    ·exact .inl h
  ·rw[h2]
   by_cases hc:mk.getD d false=false∧((b:Int)<0∨key (ls.getD (b:Int).toNat 0)<key (ls.getD d 0))
   ·rw[if_pos hc]
    have hk:key (ls.getD b 0)<key (ls.getD d 0):=hc.2.elim (fun h=>by omega) (fun h=>by simpa using h)
    refine .inr ⟨d,by omega,rfl,hc.1,fun i hi hn=>?_⟩
    rcases Nat.lt_succ_iff_lt_or_eq.1 hi with h |h
    ·rcases h4 i h hn with rfl |h5
     ·exact .inr (.inl (by simpa using hk))
     ·refine .inr (.inl ?_)
      unfold Qim at h5
      simp only[Int.toNat_natCast] at h5 ⊢
      omega
    ·exact .inl h
   ·rw[if_neg hc]
    refine .inr ⟨b,by omega,rfl,h3,fun i hi hn=>?_⟩
    rcases Nat.lt_succ_iff_lt_or_eq.1 hi with h |rfl
    ·exact h4 i h hn
    ·refine .inr ?_
     have:¬key (ls.getD (b:Int).toNat 0)<key (ls.getD i 0):=fun h=>hc ⟨hn,.inr h⟩
     unfold Qim
     simp only[Int.toNat_natCast] at this ⊢
     omega
theorem Q07 {key:Int→Int}{ls L:List Int}{mk:List Bool}{n k:Nat}(hL:L.Pairwise (Qim key ls)) (hm:∀i:Nat,i<n→(i:Int)∈L) (hr:∀x∈L,0≤x∧x<n)
  (hmk:∀i:Nat,i<n→(mk.getD i false=true↔(i:Int)∈L.take k)) (hk:k<L.length):Qrp key ls mk n=L[k]:=by
 have hd:L.Pairwise (· ≠ ·):=hL.imp (fun {a b} h e=>by subst e;exact Qmo h h)
 obtain⟨x0,x1⟩:=hr L[k] (List.getElem_mem hk)
 have hx:((L[k].toNat:Nat):Int)=L[k]:=Int.toNat_of_nonneg x0
 have hun:mk.getD L[k].toNat false=false:=by
  cases h:mk.getD L[k].toNat false with
  |false=>rfl
  |true=>
   have:=(hmk _ (by omega)).1 h
   rw[hx,List.mem_take_iff_getElem] at this
   obtain⟨i,hi,e⟩:=this
   exact absurd e ((List.pairwise_iff_getElem.1 hd) i k (by omega) hk (by omega))
 rcases Qsa key ls mk n with ⟨h1,_⟩ |⟨b,hb,h2,h3,h4⟩
 ·rw[h1 _ (by omega)] at hun
  exact absurd hun (by simp)
 ·rw[h2]
  rcases h4 L[k].toNat (by omega) hun with h |h
  ·omega
  ·exfalso
   obtain⟨j,hj,e⟩:=List.getElem_of_mem (hm b hb)
   have hjk:¬j<k:=fun hlt=>by
    have:=(hmk b hb).2 (by rw[List.mem_take_iff_getElem];exact⟨j,by omega,e⟩)
    rw[h3] at this
    exact absurd this (by simp)
   rw[hx] at h
   rcases Nat.lt_or_eq_of_le (Nat.le_of_not_lt hjk) with h5 |h5
   ·have:=(List.pairwise_iff_getElem.1 hL) k j hk hj h5
    rw[e] at this
    exact Qmo h this
   ·subst h5
    rw[e] at h
    exact Qmo h h
def mark (l:List Bool) (i:Int):List Bool:=l.set i.toNat true
theorem Qw3 (l:List Bool) (i:Int):(mark l i).length=l.length:=by simp[mark]
theorem Q0v (p:List Int):∀(l:List Bool) (i:Nat),i<l.length→(∀x∈p,0≤x)→((p.foldl mark l).getD i false=true↔((i:Int)∈p∨l.getD i false=true)):=by
 induction p with
 |nil=>exact fun l i _ _=>by simp
 |cons x r ih=>
  intro l i hi h0
  have hx:=h0 x List.mem_cons_self
  rw[List.foldl_cons,ih (mark l x) i (by rw[Qw3];exact hi) (fun y hy=>h0 y (List.mem_cons_of_mem _ hy)),List.mem_cons]
  have e:(mark l x).getD i false=true↔((i:Int)=x∨l.getD i false=true):=by
   simp only[mark,List.getD_eq_getElem?_getD,List.getElem?_set]
   by_cases h:x.toNat=i
   ·have:(i:Int)=x:=by omega
    simp[h,hi,this]
   ·have:¬(i:Int)=x:=by omega
    simp[h,this]
  rw[e]
  constructor
  ·rintro (h |h |h)
   ·exact .inl (.inr h)
   ·exact .inl (.inl h)
   ·exact .inr h
  ·rintro ((h |h) |h)
   ·exact .inr (.inl h)
   ·exact .inl h
   ·exact .inr (.inr h)
theorem Q0u {L:List Int}{n k:Nat}(hr:∀x∈L,0≤x∧x<n) (i:Nat) (hi:i<n):(((L.take k).foldl mark (List.replicate n false)).getD i false=true↔(i:Int)∈L.take k):=by
 rw[Q0v _ _ _ (by simpa using hi) (fun x hx=>(hr x (List.mem_of_mem_take hx)).1)]
 simp[hi,List.getD_eq_getElem?_getD]
def bump (l:List Int) (i:Int):List Int:=l.set i.toNat (l.getD i.toNat 0+1)
theorem Qjb (l:List Int) (i:Int):(bump l i).length=l.length:=by simp[bump]
theorem Qvm (p:List Int):∀l:List Int,(p.foldl bump l).length=l.length:=by
 induction p with
 |nil=>exact fun _=>rfl
 |cons x r ih=>exact fun l=>(ih (bump l x)).trans (Qjb l x)
theorem Qvn:∀(is l:List Int),is.Nodup→(∀x∈is,0≤x∧x<l.length)→∀i:Nat,i<l.length→(is.foldl bump l)[i]? = some (l.getD i 0+if (i:Int)∈is then 1 else 0)
 |[],l,_,_,i,hi=>by simp[List.getD_eq_getElem?_getD,hi]
 |x::is,l,hn,hb,i,hi=>by
  obtain⟨hx,hn'⟩:=List.nodup_cons.1 hn
  have hbx:=hb x (by simp)
  have ih:=Qvn is (bump l x) hn' (fun y hy=>by rw[Qjb];exact hb y (by simp[hy])) i (by rw[Qjb];exact hi)
  rw[List.foldl_cons,ih]
  congr 1
  by_cases e:(i:Int)=x
  ·subst e
   have h1:(bump l (i:Int)).getD i 0=l.getD i 0+1:=by
    unfold bump
    rw[Int.toNat_natCast,List.getD_eq_getElem?_getD,List.getElem?_set_self hi]
    rfl
   rw[h1,if_neg hx,if_pos (by simp)]
   omega
  ·have h1:(bump l x).getD i 0=l.getD i 0:=by
    unfold bump
    rw[List.getD_eq_getElem?_getD,List.getElem?_set_ne (by omega),←List.getD_eq_getElem?_getD]
   rw[h1]
   have:((i:Int)∈x::is)↔((i:Int)∈is):=by simp[e]
   simp only[this]
theorem Q36:∀(o:List Int) (i:Nat) (x y:Int),o[i]? = some x→(o.set i y).sum=o.sum+(y-x)
 |[],_,_,_,h=>by simp at h
 |a::o,0,x,y,h=>by simp at h;subst h;simp only[List.set_cons_zero,List.sum_cons];omega
 |a::o,i+1,x,y,h=>by
  have:=Q36 o i x y (by simpa using h)
  simp only[List.set_cons_succ,List.sum_cons,this];omega
theorem Qvl:∀(is l:List Int),(∀x∈is,0≤x∧x<l.length)→(is.foldl bump l).sum=l.sum+is.length
 |[],l,_=>by simp
 |x::is,l,h=>by
  have hx:=h x (by simp)
  have hg:l[x.toNat]? = some (l.getD x.toNat 0):=by rw[List.getD_eq_getElem?_getD,List.getElem?_eq_getElem (by omega)];rfl
  rw[List.foldl_cons,Qvl is (bump l x) (fun y hy=>by rw[Qjb];exact h y (by simp[hy])),bump,Q36 l _ _ _ hg]
  simp only[List.length_cons]
  omega
def Qny (M:Int) (ws:List Int):List Int:=ws.map fun w=>M*w/ws.sum
def Qno (M:Int) (ws:List Int):Int:=M-(Qny M ws).sum
def Q0r (key:Int→Int) (ls:List Int) (n:Nat):Nat→List Bool→List Int
 |0,_=>[]
 |k+1,mk=>Qrp key ls mk n::Q0r key ls n k (mark mk (Qrp key ls mk n))
def Qhh (M:Int) (ws:List Int):List Int:=(Q0r (rkey M ws.sum) ws ws.length (Qno M ws).toNat (List.replicate ws.length false)).foldl bump (Qny M ws)
theorem Qy1 {key:Int→Int}{ls L:List Int}(hp:L.Perm (ixs ls.length)) (hL:L.Pairwise (Qim key ls)):∀(k j:Nat),j+k≤L.length→Q0r key ls ls.length k ((L.take j).foldl mark (List.replicate ls.length false))=(L.drop j).take k
 |0,j,_=>by simp[Q0r]
 |k+1,j,h=>by
  have hr:∀x∈L,0≤x∧x<ls.length:=fun x hx=>Qqs.1 (hp.mem_iff.1 hx)
  have hb:Qrp key ls ((L.take j).foldl mark (List.replicate ls.length false)) ls.length=L[j]'(by omega):=Q07 hL (fun i hi=>hp.mem_iff.2 (Qqs.2 ⟨by omega,by omega⟩)) hr (fun i hi=>Q0u hr i hi) (by omega)
  have ht:mark ((L.take j).foldl mark (List.replicate ls.length false)) (L[j]'(by omega))=(L.take (j+1)).foldl mark (List.replicate ls.length false):=by
   rw[List.take_add_one,List.getElem?_eq_getElem (by omega),List.foldl_append]
   rfl
  rw[Q0r,hb,ht,Qy1 hp hL k (j+1) (by omega),List.drop_eq_getElem_cons (show j<L.length by omega),List.take_succ_cons]
structure WtsV (ws:List Int):Prop where
 l1:1≤ws.length
 l2:ws.length≤20
 w:∀x∈ws,0≤x∧x≤1000
 some:∃x∈ws,x>0
theorem Zb5 {ws:List Int}(h:wtsB ws=true):WtsV ws:=by
 unfold wtsB at h
 simp only[Bool.and_eq_true] at h
 obtain⟨h1,h2,h3⟩:=h
 have:=Qc6.1 h1
 refine⟨by omega,by omega,fun x hx=>Qc6.1 (List.all_eq_true.1 h2 x hx),?_⟩
 obtain⟨x,hx,h4⟩:=List.any_eq_true.1 h3
 exact⟨x,hx,by simpa using h4⟩
theorem Q0l (ws:List Int) (h:∀x∈ws,0≤x∧x≤1000):0≤ws.sum∧ws.sum≤1000*ws.length:=by
 induction ws with
 |nil=>simp
 |cons a l ih=>
  have h1:=ih fun x hx=>h x (List.mem_cons_of_mem _ hx)
  have h2:=h a List.mem_cons_self
  simp only[List.sum_cons,List.length_cons]
  omega
theorem WtsV.sum {ws:List Int}(h:WtsV ws):0<ws.sum∧ws.sum≤20000:=by
 have h1:=Q0l ws h.w
 have h2:=(Q3z fun x hx=>(h.w x hx).1).2.2 h.some
 have:=h.l2
 omega
theorem WtsV.ok {ws:List Int}(h:WtsV ws) {M:Int}(h0:0≤M) (h1:M≤1000000):WOk ws M ws.sum:=⟨h.w,h0,h1,h.sum.1,h.sum.2⟩
theorem Qoi:∀(ws:List Int),(∀x∈ws,0≤x)→∀x∈ws,x≤ws.sum
 |a::l,h,x,hx=>by
  have h1:=(Q3z fun y hy=>h y (List.mem_cons_of_mem a hy)).1
  have h2:=h a List.mem_cons_self
  rw[List.sum_cons]
  rcases List.mem_cons.1 hx with rfl |hx
  ·omega
  ·have:=Qoi l (fun y hy=>h y (List.mem_cons_of_mem a hy)) x hx
   omega
theorem Qzs {M W:Int}(hM:0≤M) (hW:0<W):∀(l:List Int),(∀x∈l,0≤x)→W*(l.map fun w=>M*w/W).sum≤M*l.sum∧M*l.sum≤W*(l.map fun w=>M*w/W).sum+(W-1)*l.length∧0≤(l.map fun w=>M*w/W).sum
 |[],_=>by simp
 |x::l,h=>by
  obtain⟨h1,h2,h3⟩:=Qzs hM hW l fun y hy=>h y (List.mem_cons_of_mem _ hy)
  have b:=h x (by simp)
  have p0:=Int.mul_nonneg hM b
  have q0:=Int.ediv_nonneg p0 (show 0≤W by omega)
  have q1:=Int.emod_add_mul_ediv (M*x) W
  have q2:=Int.emod_nonneg (M*x) (show W≠0 by omega)
  have q3:=Int.emod_lt_of_pos (M*x) hW
  simp only[List.map_cons,List.sum_cons,List.length_cons,Int.mul_add,Int.natCast_add,Int.natCast_one,Int.mul_one]
  omega
theorem Qw8 {M:Int}{ws:List Int}(h:WtsV ws) (h0:0≤M):0≤Qno M ws∧Qno M ws<ws.length∧0≤(Qny M ws).sum:=by
 obtain⟨w0,w1⟩:=h.sum
 obtain⟨b1,b2,b3⟩:=Qzs h0 w0 ws fun x hx=>(h.w x hx).1
 have hl:=h.l1
 generalize hS:(ws.map fun w=>M*w/ws.sum).sum=S at b1 b2 b3
 have hB:(Qny M ws).sum=S:=hS
 unfold Qno
 rw[hB]
 rw[Int.mul_comm M] at b1 b2
 have c1:S≤M:=Int.le_of_mul_le_mul_left b1 w0
 have c2:M<S+ws.length:=by
  apply Decidable.byContradiction
  intro hc
  have:ws.sum*(S+ws.length)≤ws.sum*M:=Int.mul_le_mul_of_nonneg_left (by omega) (by omega)
  rw[Int.mul_add] at this
  rw[Int.sub_mul] at b2
  omega
 omega
theorem Qmi {M:Int}{ws L:List Int}(h:WtsV ws) (h0:0≤M) (hp:L.Perm (ixs ws.length)) (hL:L.Pairwise (Qim (rkey M ws.sum) ws)) :
  Q0r (rkey M ws.sum) ws ws.length (Qno M ws).toNat (List.replicate ws.length false)=L.take (Qno M ws).toNat:=by
 have hb:=Qw8 h h0
 have hlen:=hp.length_eq
 rw[Qhj] at hlen
 have:=Qy1 hp hL (Qno M ws).toNat 0 (by omega)
 simpa using this
theorem Qup {M:Int}{ws:List Int}(h:WtsV ws) (h0:0≤M) (h1:M≤1000000):∃L:List Int,L.Perm (ixs ws.length)∧L.Pairwise (Qim (rkey M ws.sum) ws):=by
 obtain⟨Q,_,q2,q3⟩:=Quo (N:=1000) (h.ok h0 h1) h.l2 h.l1 (Nat.le_refl _)
 exact⟨Q,q2,q3⟩
theorem Qif (M:Int) (ws:List Int):(Qny M ws).length=ws.length:=by simp[Qny]
theorem Qgf (M:Int) (ws:List Int):(Qhh M ws).length=ws.length:=by rw[Qhh,Qvm,Qif]
theorem Qqq {M:Int}{ws:List Int}(h:WtsV ws) (h0:0≤M) (h1:M≤1000000):(Qhh M ws).sum=M:=by
 obtain⟨L,hp,hL⟩:=Qup h h0 h1
 have hb:=Qw8 h h0
 have hlen:=hp.length_eq
 rw[Qhj] at hlen
 rw[Qhh,Qmi h h0 hp hL,Qvl _ _ (fun x hx=>by rw[Qif];exact Qqs.1 (hp.mem_iff.1 (List.mem_of_mem_take hx))),List.length_take]
 unfold Qno at hb ⊢
 omega
theorem Qtu {M:Int}{ws:List Int}(h:WtsV ws) (h0:0≤M):∀x∈Qny M ws,0≤x∧x≤M:=by
 intro x hx
 obtain⟨w,hw,rfl⟩:=List.mem_map.1 hx
 obtain⟨w0,w1⟩:=h.sum
 have:=h.w w hw
 have hle:=Qoi ws (fun y hy=>(h.w y hy).1) w hw
 refine⟨Int.ediv_nonneg (Int.mul_nonneg h0 this.1) (by omega),Int.ediv_le_of_le_mul w0 ?_⟩
 exact Int.mul_le_mul_of_nonneg_left hle h0
theorem Qr2 {M:Int}{ws:List Int}(h:WtsV ws) (h0:0≤M) (h1:M≤1000000):∀x∈Qhh M ws,0≤x∧x≤M:=by
 have hs:=Qqq h h0 h1
 obtain⟨L,hp,hL⟩:=Qup h h0 h1
 have hnd:L.Nodup:=hp.nodup_iff.2 (Q5d _)
 have hn:∀x∈Qhh M ws,0≤x:=fun x hx=>by
  obtain⟨i,hi⟩:=List.mem_iff_getElem?.1 hx
  have hil:i<ws.length:=by have:=(List.getElem?_eq_some_iff.1 hi).1;rwa [Qgf] at this
  rw[Qhh,Qmi h h0 hp hL,Qvn _ _ (hnd.sublist (List.take_sublist _ _)) (fun x hx=>by rw[Qif];exact Qqs.1 (hp.mem_iff.1 (List.mem_of_mem_take hx))) i (by rw[Qif];exact hil)] at hi
  have hbx:=Qtu h h0 ((Qny M ws)[i]'(by rw[Qif];exact hil)) (List.getElem_mem _)
  have hg:(Qny M ws).getD i 0=(Qny M ws)[i]'(by rw[Qif];exact hil):=by rw[List.getD_eq_getElem?_getD,List.getElem?_eq_getElem (by rw[Qif];exact hil)];rfl
  rw[hg] at hi
  have:=Option.some.inj hi
  split at this<;>omega
 intro x hx
 exact⟨hn x hx,by rw[←hs];exact Qoi _ hn x hx⟩
section
variable {N : Nat} {M : Int} {ws : List Int} (h : WtsV ws) (h0 : 0 ≤ M) (h1 : M ≤ 1000000) (hN : 1001 ≤ N)
include h in
theorem Q0g (k:Int→Option (List Int)):∀(n i:Nat) (s:Int),(ws.drop i).length<n→0≤s→s≤1000*i→Qdh N ws k n i s=k (s+(ws.drop i).sum):=by
 intro n
 induction n with
 |zero=>intro i _ h;cases h
 |succ n ih=>
  intro i s hn s0 s1
  rw[Qdh]
  cases hd:ws.drop i with
  |nil=>
   have:=Qdv hd
   simp[show ¬((i:Int)<ws.length) from by omega]
  |cons a l=>
   obtain⟨hg,hd',hlt⟩:=Qc4 hd
   have ha:=h.w a (List.mem_of_getElem? hg)
   have:=h.l2
   simp only[dlI hlt,cond_true,Qcn hg,Option.bind_some,List.sum_cons]
   rw[Qbb (x:=(i:Int)+1) (by omega) (by omega),Qbb (x:=s+a) (by omega) (by omega),show(i:Int)+1=((i+1:Nat):Int) by omega,ih (i+1) (s+a) (by rw[hd'];rw[hd] at hn;simp at hn;omega) (by omega) (by omega),hd',Int.add_assoc]
include h h0 h1 in
theorem Q52 (k:Int×List Int→Option (List Int)):∀(n i:Nat) (r:Int) (o:List Int),(ws.drop i).length<n→i≤ws.length→o.length=ws.length-i→-1000000*(i:Int)≤r→r≤1000000 →
  Qdi N M ws ws.sum k n r i (((ws.take i).map fun w=>M*w/ws.sum)++o)=k (r-((ws.drop i).map fun w=>M*w/ws.sum).sum,Qny M ws):=by
 intro n
 induction n with
 |zero=>intro i _ _ h;cases h
 |succ n ih=>
  intro i r o hn hi ho r0 r1
  rw[Qdi]
  cases hd:ws.drop i with
  |nil=>
   have:=Qdv hd
   have e:o=[]:=List.length_eq_zero_iff.1 (by omega)
   simp[show ¬((i:Int)<ws.length) from by omega,e,List.take_of_length_le this,Qny]
  |cons a l=>
   obtain⟨hg,hd',hlt⟩:=Qc4 hd
   have ha:=h.w a (List.mem_of_getElem? hg)
   have hl2:=h.l2
   obtain⟨p0,p1⟩:=h.sum
   obtain⟨x,o',rfl⟩:∃x o',o=x::o':=by
    cases o with
    |nil=>simp at ho;omega
    |cons x o'=>exact⟨x,o',rfl⟩
   have hb:=Qtu h h0 (M*a/ws.sum) (List.mem_map.2 ⟨a,List.mem_of_getElem? hg,rfl⟩)
   have hp:=bdp h0 h1 ha.1 ha.2 (by omega)
   have hlt':((ws.take i).map fun w=>M*w/ws.sum).length=i:=by simp;omega
   have e2:∀y,(((ws.take i).map fun w=>M*w/ws.sum)++y::o')[i]? = some y:=fun y=>by rw[List.getElem?_append_right (by omega),hlt'];simp
   have e3:(((ws.take i).map fun w=>M*w/ws.sum)++x::o').set i (M*a/ws.sum)=((ws.take i).map fun w=>M*w/ws.sum)++(M*a/ws.sum)::o':=by
    rw[List.set_append_right _ _ (by omega),hlt',Nat.sub_self,List.set_cons_zero]
   have e5:((ws.take i).map fun w=>M*w/ws.sum)++(M*a/ws.sum)::o'=((ws.take (i+1)).map fun w=>M*w/ws.sum)++o':=by
    rw[List.take_add_one,hg];simp
   have e4:((i:Int):Int).toNat=i:=by omega
   have c1:(decide ((0:Int)≤(i:Int))&&decide (i<(ws.length:Int).toNat))=true:=by simp;omega
   have ev:w64 ((w64 (M*a)).tdiv ws.sum)=M*a/ws.sum:=by
    rw[Qbb (x:=M*a) (by omega) (by omega),Int.tdiv_eq_ediv_of_nonneg hp.1,Qbb (by omega) (by omega)]
   simp only[dlI hlt,cond_true,Qcn hg,Option.bind_some,chk,show(ws.sum != 0)=true from by rw[bne_iff_ne];omega,e4,c1,e2,ev,e3]
   rw[Qbb (x:=(i:Int)+1) (by omega) (by omega),Qbb (x:=r-M*a/ws.sum) (by omega) (by omega),show(i:Int)+1=((i+1:Nat):Int) by omega,e5,ih (i+1) _ o' (by rw[hd'];rw[hd] at hn;simp at hn;omega) (by omega) (by simp at ho;omega) (by omega) (by omega),hd',List.map_cons,List.sum_cons]
   congr 2
   omega
theorem Q51 (k:List Int→Option (List Int)) (x13:List Int) (y6:Int) (is:List Int) (his:x13.take (y6.toNat-0)=is) (hlen:is.length≤20) (hr:∀x∈is,0≤x∧x<ws.length):∀(n i:Nat) (o:List Int),(is.drop i).length<n→o.length=ws.length→(∀x∈o,0≤x∧x≤1000000+i) →
  Qdj N ws y6 k x13 n i o=k ((is.drop i).foldl bump o):=by
 intro n
 induction n with
 |zero=>intro i _ h;cases h
 |succ n ih=>
  intro i o hn ho hob
  rw[Qdj,his]
  cases hd:is.drop i with
  |nil=>
   have:=Qdv hd
   simp[show ¬((i:Int)<is.length) from by omega]
  |cons b t=>
   obtain⟨hg,hd',hlt⟩:=Qc4 hd
   obtain⟨b0,b1⟩:=hr b (List.mem_of_getElem? hg)
   have hx:o[b.toNat]? = some (o.getD b.toNat 0):=by rw[List.getD_eq_getElem?_getD,List.getElem?_eq_getElem (by omega)];rfl
   have hxb:=hob _ (List.mem_of_getElem? hx)
   have c1:(decide ((0:Int)≤b)&&decide (b.toNat<(ws.length:Int).toNat))=true:=by simp;omega
   simp only[dlI hlt,cond_true,Qcn hg,Option.bind_some,chk,c1,hx]
   rw[Qbb (x:=(i:Int)+1) (by omega) (by omega),Qbb (x:=o.getD b.toNat 0+1) (by omega) (by omega),show(i:Int)+1=((i+1:Nat):Int) by omega]
   have:=ih (i+1) (bump o b) (by rw[hd'];rw[hd] at hn;simp at hn;omega) (by rw[Qjb];exact ho) (fun z hz=>by
    rcases List.mem_or_eq_of_mem_set hz with hz |rfl
    ·have:=hob z hz;omega
    ·omega)
   rw[hd'] at this
   exact this
include h h0 h1 hN in
theorem Q45:Qg3 N M ws=some (Qhh M ws):=by
 have hl1:=h.l1
 have hl2:=h.l2
 unfold Qg3
 simp only[Qb7]
 refine(Q0g h _ N 0 0 (by simp;omega) (by omega) (by omega)).trans ?_
 rw[List.drop_zero,Int.zero_add]
 simp only[chk]
 rw[show(decide ((0:Int)≤(ws.length:Int))&&decide (8*(ws.length:Int)≤281474976710656)&&decide ((ws.length:Int)≤9223372036854775807))=true from by simp;omega,cond_true]
 have eo:=fun k=>Q52 (N:=N) h h0 h1 k N 0 M (List.replicate (ws.length:Int).toNat 0) (by simp;omega) (by omega) (by simp) (by omega) h1
 simp only[List.take_zero,List.map_nil,List.nil_append,List.drop_zero] at eo
 refine(eo _).trans ?_
 dsimp only
 obtain⟨Q,q1,q2,q3⟩:=Quo (N:=N) (h.ok h0 h1) hl2 hl1 (by omega)
 have hlen:=q2.length_eq
 rw[Qhj] at hlen
 have hb:=Qw8 h h0
 have hL:M-(ws.map fun w=>M*w/ws.sum).sum=Qno M ws:=rfl
 rw[q1,Option.bind_some,hL,show(decide ((0:Nat)≤0)&&decide (0≤Qno M ws)&&decide (Qno M ws≤(Q.length:Int)))=true from by simp;omega,cond_true]
 have hr:∀x∈Q.take ((Qno M ws).toNat-0),0≤x∧x<ws.length:=fun x hx=>Qqs.1 (q2.mem_iff.1 (List.mem_of_mem_take hx))
 refine(Q51 _ Q (Qno M ws) _ rfl (by rw[List.length_take];omega) hr N 0 (Qny M ws) (by rw[List.drop_zero,List.length_take];omega) (Qif _ _) (fun x hx=>by have:=Qtu h h0 x hx;omega)).trans ?_
 have hm:(Q.take ((Qno M ws).toNat-0)).foldl bump (Qny M ws)=Qhh M ws:=by
  rw[Qhh,Qmi h h0 q2 q3,Nat.sub_zero]
 rw[List.drop_zero,hm,Qgf,show decide ((ws.length:Int).toNat≤ws.length)=true from by simp,cond_true,List.take_of_length_le (by rw[Qgf];simp)]
end
end
section
def totS (l:List Qaa):Qaa:=⟨(l.map fun s=>s.Mass).sum,(l.map fun s=>s.Heat).sum,(l.map fun s=>s.Silica).sum,(l.map fun s=>s.Gas).sum⟩
def totW (l:List Qaa):Qaa:=⟨w64 (totS l).Mass,w64 (totS l).Heat,w64 (totS l).Silica,w64 (totS l).Gas⟩
theorem Q3w (N:Nat) (l:List Qaa) (k:Int×Int×Int×Int→Option Qaa) (hl:l.length≤1000000):∀(n i:Nat) (a b c d:Int),(l.drop i).length<n →
  Qd2 N l k n i (w64 a) (w64 b) (w64 c) (w64 d)=k (w64 (a+(totS (l.drop i)).Mass),w64 (b+(totS (l.drop i)).Heat),w64 (c+(totS (l.drop i)).Silica),w64 (d+(totS (l.drop i)).Gas)):=by
 intro n
 induction n with
 |zero=>intro i _ _ _ _ h;cases h
 |succ n ih=>
  intro i a b c d h
  rw[Qd2]
  cases hd:l.drop i with
  |nil=>
   have:=Qdv hd
   simp[show ¬((i:Int)<l.length) from by omega,totS]
  |cons x q=>
   obtain⟨hg,hd',hlt⟩:=Qc4 hd
   simp only[dlI hlt,cond_true,Qcn hg,Option.bind_some,Qoy]
   rw[w64S (i:=i) (by omega),ih (i+1) _ _ _ _ (dlt hd hd' h),hd']
   simp only[totS,List.map_cons,List.sum_cons,Int.add_assoc]
theorem Qyo:w64 0=0:=by decide
theorem Qwk {N:Nat}{l:List Qaa}(hl:l.length≤1000) (hN:1001≤N):Qes N l=some (totW l):=by
 unfold Qes
 simp only[Qb7]
 have:=Q3w N l (fun x=>match x with |(y1,y2,y3,y4)=>some (⟨y1,y2,y3,y4⟩:Qaa)) (by omega) N 0 0 0 0 0 (by simp;omega)
 rw[Qyo,List.drop_zero] at this
 refine this.trans ?_
 simp[totW]
theorem Q30 (N:Nat) (l:List Qaa) (k:Int×Int×Int×Int→Option Qaa) (hl:l.length≤1000000):∀(n i:Nat) (a b c d:Int),(l.drop i).length<n →
  Qeg N l k n i (w64 a) (w64 b) (w64 c) (w64 d)=k (w64 (a+(totS (l.drop i)).Mass),w64 (b+(totS (l.drop i)).Heat),w64 (c+(totS (l.drop i)).Silica),w64 (d+(totS (l.drop i)).Gas)):=by
 intro n
 induction n with
 |zero=>intro i _ _ _ _ h;cases h
 |succ n ih=>
  intro i a b c d h
  rw[Qeg]
  cases hd:l.drop i with
  |nil=>
   have:=Qdv hd
   simp[show ¬((i:Int)<l.length) from by omega,totS]
  |cons x q=>
   obtain⟨hg,hd',hlt⟩:=Qc4 hd
   simp only[dlI hlt,cond_true,Qcn hg,Qhr,Qcd,Option.bind_some,Qoy]
   rw[w64S (i:=i) (by omega),ih (i+1) _ _ _ _ (dlt hd hd' h),hd']
   simp only[totS,List.map_cons,List.sum_cons,Int.add_assoc]
theorem Zcf {N:Nat}{l:List Qaa}(hl:l.length≤1000) (hN:1001≤N):Qit N l=some (totW l):=by
 unfold Qit
 simp only[Qb7]
 have:=Q30 N l (fun x=>match x with |(y1,y2,y3,y4)=>some (⟨y1,y2,y3,y4⟩:Qaa)) (by omega) N 0 0 0 0 0 (by simp;omega)
 rw[Qyo,List.drop_zero] at this
 refine this.trans ?_
 simp[totW]
theorem Qk7 (s:Qaa) (l:List Qaa):totS (s::l)=⟨s.Mass+(totS l).Mass,s.Heat+(totS l).Heat,s.Silica+(totS l).Silica,s.Gas+(totS l).Gas⟩:=by simp[totS]
theorem Qgi (s:Qaa):totS [s]=s:=by simp[totS]
theorem Qwj (l m:List Qaa):totS (l++m)=⟨(totS l).Mass+(totS m).Mass,(totS l).Heat+(totS m).Heat,(totS l).Silica+(totS m).Silica,(totS l).Gas+(totS m).Gas⟩:=by simp[totS]
structure TotV (t:Qaa) (n:Nat):Prop where
 m0:0≤t.Mass
 m1:t.Mass≤1000000*n
 h0:0≤t.Heat
 h1:t.Heat≤4000*t.Mass
 s0:0≤t.Silica
 s1:t.Silica≤10000*t.Mass
 g0:0≤t.Gas
 g1:t.Gas≤1000000000*n
theorem Qn9:∀{l:List Qaa},(∀s∈l,StrV s)→TotV (totS l) l.length
 |[],_=>⟨by decide,by decide,by decide,by decide,by decide,by decide,by decide,by decide⟩
 |s::l,h=>by
  obtain⟨a1,a2,a3,a4,a5,a6,a7,a8⟩:=Qn9 fun x hx=>h x (List.mem_cons_of_mem s hx)
  obtain⟨b1,b2,b3,b4,b5,b6,b7,b8⟩:=h s List.mem_cons_self
  rw[Qk7]
  refine⟨?_,?_,?_,?_,?_,?_,?_,?_⟩<;>simp only[List.length_cons]<;>omega
theorem Qst {l:List Qaa}(h:∀s∈l,StrV s) (hl:l.length≤1000):totW l=totS l:=by
 obtain⟨a1,a2,a3,a4,a5,a6,a7,a8⟩:=Qn9 h
 have:(l.length:Int)≤1000:=by omega
 unfold totW
 rw[Qbb (x:=(totS l).Mass) (by omega) (by omega),Qbb (x:=(totS l).Heat) (by omega) (by omega),Qbb (x:=(totS l).Silica) (by omega) (by omega),Qbb (x:=(totS l).Gas) (by omega) (by omega)]
theorem Q7n {l:List Qaa}(h:∀s∈l,StrV s) (hm:(totS l).Mass≤1000000) (hg:(totS l).Gas≤1000000000):StrV (totS l):=by
 obtain⟨a1,a2,a3,a4,a5,a6,a7,a8⟩:=Qn9 h
 exact⟨a1,hm,a3,a4,a5,a6,a7,hg⟩
def mx (s:Qaa):Int:=if s.Mass>1 then s.Mass else 1
def Qwy (s:Qaa) (m:Int):Qaa:=⟨m,s.Heat*m/mx s,s.Silica*m/mx s,s.Gas*m/mx s⟩
def Qge (s:Qaa) (ws:List Int):List Qaa:=(Qhh s.Mass ws).map (Qwy s)
def Qjv (s:Qaa) (ws:List Int):Qk3:=⟨s.Heat-(totS (Qge s ws)).Heat,s.Silica-(totS (Qge s ws)).Silica,s.Gas-(totS (Qge s ws)).Gas⟩
theorem Quz (s:Qaa):0<mx s:=by unfold mx;split<;>omega
theorem Zcw {s:Qaa}(h:0≤s.Mass):s.Mass≤mx s:=by unfold mx;split<;>omega
theorem Q4l {n m c:Int}{s:Qaa}(hM:0≤s.Mass) (hm:0≤m) (hn:n≤c*s.Mass) (hc:0≤c):n*m/mx s≤c*m:=by
 have h1:n*m≤c*s.Mass*m:=Int.mul_le_mul_of_nonneg_right hn hm
 have h2:c*s.Mass*m≤c*m*mx s:=by
  rw[Int.mul_assoc,Int.mul_assoc,Int.mul_comm s.Mass m]
  exact Int.mul_le_mul_of_nonneg_left (Int.mul_le_mul_of_nonneg_left (Zcw hM) hm) hc
 exact Int.ediv_le_of_le_mul (Quz s) (Int.le_trans h1 h2)
theorem Qs7 {n m:Int}{s:Qaa}(hM:0≤s.Mass) (hm:0≤m) (hmM:m≤s.Mass) (hn:0≤n):0≤n*m/mx s∧n*m/mx s≤n:=by
 have hp:=Quz s
 refine⟨Int.ediv_nonneg (Int.mul_nonneg hn hm) (by omega),Int.ediv_le_of_le_mul hp ?_⟩
 have:=Zcw hM
 exact Int.mul_le_mul_of_nonneg_left (by omega) hn
theorem Q7z {s:Qaa}(hs:StrV s) {m:Int}(h0:0≤m) (h1:m≤s.Mass):StrV (Qwy s m):=by
 obtain⟨a1,a2,a3,a4,a5,a6,a7,a8⟩:=hs
 have b1:=Qs7 a1 h0 h1 a3
 have b2:=Q4l a1 h0 a4 (by omega)
 have b3:=Qs7 a1 h0 h1 a5
 have b4:=Q4l a1 h0 a6 (by omega)
 have b5:=Qs7 a1 h0 h1 a7
 exact⟨h0,by dsimp only[Qwy];omega,b1.1,b2,b3.1,b4,b5.1,by dsimp only[Qwy];omega⟩
theorem Qy2 {n:Int}{s:Qaa}(hn:0≤n):∀(l:List Int),(∀m∈l,0≤m)→mx s*(l.map fun m=>n*m/mx s).sum≤n*l.sum
 |[],_=>by simp
 |m::l,h=>by
  have h1:=Qy2 (n:=n) (s:=s) hn l fun x hx=>h x (List.mem_cons_of_mem _ hx)
  have hp:=Quz s
  have h2:=Int.mul_ediv_self_le (x:=n*m) (k:=mx s) (by omega)
  simp only[List.map_cons,List.sum_cons,Int.mul_add]
  omega
theorem Qs6 {n:Int}{s:Qaa}(hn:0≤n) (hM:0≤s.Mass) {l:List Int}(h:∀m∈l,0≤m) (hl:l.sum=s.Mass):(l.map fun m=>n*m/mx s).sum≤n:=by
 have h1:=Qy2 (s:=s) hn l h
 have hp:=Quz s
 rw[hl] at h1
 have h2:n*s.Mass≤n*mx s:=Int.mul_le_mul_of_nonneg_left (Zcw hM) hn
 rw[Int.mul_comm n (mx s)] at h2
 exact Int.le_of_mul_le_mul_left (Int.le_trans h1 h2) hp
theorem Q0i (s:Qaa) (l:List Int):totS (l.map (Qwy s))=⟨l.sum,(l.map fun m=>s.Heat*m/mx s).sum,(l.map fun m=>s.Silica*m/mx s).sum,(l.map fun m=>s.Gas*m/mx s).sum⟩:=by
 simp[totS,Qwy,Function.comp_def]
structure Zij (s:Qaa) (o:List Qaa) (l:Qk3):Prop where
 v:∀x∈o,StrV x
 m:(totS o).Mass=s.Mass
 h:(totS o).Heat+l.Heat=s.Heat
 q:(totS o).Silica+l.Silica=s.Silica
 g:(totS o).Gas+l.Gas=s.Gas
 h0:0≤l.Heat
 q0:0≤l.Silica
 g0:0≤l.Gas
theorem Qkc {s:Qaa}(hs:StrV s) {ws:List Int}(h:WtsV ws):Zij s (Qge s ws) (Qjv s ws):=by
 have hs':=hs
 obtain⟨a1,a2,a3,a4,a5,a6,a7,a8⟩:=hs'
 have hsum:=Qqq h a1 a2
 have hbd:=Qr2 h a1 a2
 have hnn:∀m∈Qhh s.Mass ws,0≤m:=fun m hm=>(hbd m hm).1
 have e:totS (Qge s ws)=_:=Q0i s (Qhh s.Mass ws)
 have t1:=Qs6 (n:=s.Heat) (s:=s) a3 a1 hnn hsum
 have t2:=Qs6 (n:=s.Silica) (s:=s) a5 a1 hnn hsum
 have t3:=Qs6 (n:=s.Gas) (s:=s) a7 a1 hnn hsum
 refine⟨fun x hx=>?_,?_,?_,?_,?_,?_,?_,?_⟩
 ·obtain⟨m,hm,rfl⟩:=List.mem_map.1 hx
  exact Q7z hs (hbd m hm).1 (hbd m hm).2
 ·rw[e];exact hsum
 all_goals (simp only[Qjv,e];omega)
section
variable {N : Nat} {s : Qaa} {ws : List Int} (hs : StrV s) (h : WtsV ws) (hN : 1001 ≤ N)
include hs in
theorem Q4r {n m:Int}(hn:0≤n) (hn':n≤10000000000) (h0:0≤m) (h1:m≤s.Mass) (a b c:Int):Qeh N n m s.Mass a b c=some (n*m/mx s):=by
 have hM:=hs.m1
 have hM0:=hs.m0
 have hp:=bdp hn hn' h0 (show m≤1000000 by omega) (by omega)
 have hb:=Qs7 hM0 h0 h1 hn
 have hx:=Quz s
 unfold Qeh
 show chk (mx s != 0) ((some (w64 ((w64 (n*m)).tdiv (mx s)))).bind fun x2=>some x2)=_
 rw[show(mx s != 0)=true by rw[bne_iff_ne];omega,Qbb (x:=n*m) (by omega) (by omega),Int.tdiv_eq_ediv_of_nonneg hp.1,Qbb (by omega) (by omega)]
 rfl
include hs in
theorem Q0s (k:List Qaa→Option (List Qaa×Qk3×Int)) (l:List Int) (hl:l.length≤20) (hb:∀m∈l,0≤m∧m≤s.Mass):∀(n i:Nat) (acc:List Qaa),(l.drop i).length<n→acc.length=i →
  Qdm N s k l n acc i=k (acc++(l.drop i).map (Qwy s)):=by
 intro n
 induction n with
 |zero=>intro i _ h;cases h
 |succ n ih=>
  intro i acc h ha
  rw[Qdm]
  cases hd:l.drop i with
  |nil=>
   have:=Qdv hd
   simp[show ¬((i:Int)<l.length) from by omega]
  |cons m q=>
   obtain⟨hg,hd',hlt⟩:=Qc4 hd
   obtain⟨m0,m1⟩:=hb m (List.mem_of_getElem? hg)
   have a1:=hs.m1
   simp only[dlI hlt,cond_true,Qcn hg,Option.bind_some,Q4r (N:=N) hs hs.h0 (by have:=hs.h1;omega) m0 m1,Q4r (N:=N) hs hs.s0 (by have:=hs.s1;omega) m0 m1,Q4r (N:=N) hs hs.g0 (by have:=hs.g1;omega) m0 m1,chk]
   have hc:decide ((acc.length+[(⟨m,s.Heat*m/mx s,s.Silica*m/mx s,s.Gas*m/mx s⟩:Qaa)].length)*32≤140737488355328)=true:=by simp;omega
   rw[hc,cond_true,w64S (i:=i) (by omega),
    ih (i+1) _ (dlt hd hd' h) (by simp[ha]),hd',List.append_assoc]
   rfl
include h hN in
theorem Q3k:Qfv N ws=some true∧Qb9 N ws=some true:=by
 have hl:=h.l2
 have hc:Qcp N ws=some (ws.any fun x=>!btw x 0 1000):=by
  unfold Qcp Qdq Qb7
  refine Qgy (F:=Qbu N ws fun _=>some (-1)) (k:=fun _=>some (-1)) (q:=Qe3 N) (fun n y=>rfl) (fun x=>?_) rfl (by omega) (by omega)
  simp only[Qe3,Qht,Qjz,Option.bind_some]
 constructor
 ·unfold Qfv
  rw[hc,Option.bind_some,Qre]
  congr 1
  exact List.all_eq_true.2 fun x hx=>Qc6.2 (h.w x hx)
 ·have:Qb9 N ws=some (ws.any fun x=>decide (x>0)):=by
   unfold Qb9 Qdp Qb7
   exact Qgy (F:=Qbt N ws fun _=>some (-1)) (k:=fun _=>some (-1)) (q:=Qhs N) (fun n y=>rfl) (fun x=>rfl) rfl (by omega) (by omega)
  rw[this]
  congr 1
  obtain⟨x,hx,hp⟩:=h.some
  exact List.any_eq_true.2 ⟨x,hx,by simpa using hp⟩
include hs h hN in
theorem Q7v:Qh0 N s ws=some (Qge s ws,Qjv s ws,0):=by
 have hl:=h.l2
 obtain⟨w1,w2⟩:=Q3k h hN
 have hK:=Qkc hs h
 have hlen:(Qge s ws).length=ws.length:=by unfold Qge;rw[List.length_map,Qgf]
 unfold Qh0
 simp only[Qb7,Qpi,Qjk.2 hs,Option.bind_some,Bool.not_true,cond_false,w1,w2,show decide ((ws.length:Int)>20)=false from by simp;omega,Q45 h hs.m0 hs.m1 hN]
 refine(Q0s hs _ (Qhh s.Mass ws) (by rw[Qgf];exact hl) (Qr2 h hs.m0 hs.m1) N 0 [] (by rw[List.drop_zero,Qgf];omega) rfl).trans ?_
 rw[List.drop_zero,List.nil_append]
 show(Qit N (Qge s ws)).bind _=_
 rw[Zcf (by omega) hN,Option.bind_some,Qst hK.v (by omega)]
 obtain⟨_,k1,k2,k3,k4,k5,k6,k7⟩:=hK
 have g1:=hs.h1
 have g2:=hs.s1
 have g3:=hs.g1
 have g4:=hs.m1
 have v:=Qn9 (Qkc hs h).v
 have:=v.h0
 have:=v.s0
 have:=v.g0
 unfold Qjv at *
 dsimp only at *
 rw[Qbb (x:=s.Heat-_) (by omega) (by omega),Qbb (x:=s.Silica-_) (by omega) (by omega),Qbb (x:=s.Gas-_) (by omega) (by omega)]
 rfl
end
end
section
def zs:Qaa:=⟨0,0,0,0⟩
def Qf7 (t:List GRow) (l:Int):GRow:=(getI t l).getD ⟨0,0,0,0,0⟩
def Qph (x:Qaj) (s:Qaa):Int:=if s.Heat<x.Amount then s.Heat else x.Amount
def actE (t:List GRow) (x:Qaj) (s:Qaa):List Qaa×Qba×Int:=
 if x.Kind=3 then([⟨s.Mass,s.Heat-Qph x s,s.Silica,s.Gas⟩],⟨Qph x s,0,0,0⟩,0)
 else if x.Kind=4 then
  if x.Amount=0 then([(flG (Qf7 t x.Level) s).Steam,(flG (Qf7 t x.Level) s).Water],⟨0,0,0,(flG (Qf7 t x.Level) s).Scale⟩,(flG (Qf7 t x.Level) s).Steam.Mass)
  else([totS [(flG (Qf7 t x.Level) s).Steam,(Qge (flG (Qf7 t x.Level) s).Water [1000-x.Amount,x.Amount]).getD 1 zs],(Qge (flG (Qf7 t x.Level) s).Water [1000-x.Amount,x.Amount]).getD 0 zs],
   ⟨(Qjv (flG (Qf7 t x.Level) s).Water [1000-x.Amount,x.Amount]).Heat,(Qjv (flG (Qf7 t x.Level) s).Water [1000-x.Amount,x.Amount]).Silica,(Qjv (flG (Qf7 t x.Level) s).Water [1000-x.Amount,x.Amount]).Gas,(flG (Qf7 t x.Level) s).Scale⟩,(flG (Qf7 t x.Level) s).Steam.Mass)
 else if x.Kind=5 then(Qge s x.Weights,⟨(Qjv s x.Weights).Heat,(Qjv s x.Weights).Silica,(Qjv s x.Weights).Gas,0⟩,0)
 else([s],⟨0,0,0,0⟩,0)
structure Zeb (x:Qaj) (s:Qaa) (a:List Qaa×Qba×Int):Prop where
 v:∀y∈a.1,StrV y
 len:(a.1.length:Int)=outl x
 m:(totS a.1).Mass=s.Mass
 h:(totS a.1).Heat+a.2.1.Heat=s.Heat
 q:(totS a.1).Silica+a.2.1.Silica+a.2.1.Scale=s.Silica
 g:(totS a.1).Gas+a.2.1.Gas=s.Gas
 h0:0≤a.2.1.Heat
 q0:0≤a.2.1.Silica
 g0:0≤a.2.1.Gas
 c0:0≤a.2.1.Scale
 t0:0≤a.2.2
 t1:a.2.2≤1000000
structure Zbb (x:Qaj):Prop where
 k:1≤x.Kind∧x.Kind≤6
 well:x.Kind=1→x.From=[]
 a3:x.Kind=3→0≤x.Amount
 a4:x.Kind=4→0≤x.Amount∧x.Amount≤1000
 w5:x.Kind=5→WtsV x.Weights
theorem Qn4 {x:Qaj}(h:Qgz x=true):Zbb x:=by
 unfold Qgz at h
 simp only[Bool.and_eq_true] at h
 obtain⟨⟨⟨⟨⟨h1,_⟩,_⟩,h4⟩,h5⟩,h6⟩:=h
 refine⟨Qc6.1 h1,fun e=>?_,fun e=>?_,fun e=>?_,fun e=>?_⟩
 ·rw[e] at h4
  obtain⟨_,h7⟩:=Qc6.1 h4
  rw[if_pos rfl] at h7
  exact List.length_eq_zero_iff.1 (by omega)
 ·rw[e] at h5
  have:=Qc6.1 h5
  exact this.1
 ·rw[e] at h5
  have:=Qc6.1 h5
  simpa using this
 ·rw[e] at h6
  exact Zb5 (by simpa using h6)
theorem Q3u {a:Int}(h0:0<a) (h1:a≤1000):WtsV [1000-a,a]:=
 ⟨by simp,by simp,fun x hx=>by simp at hx;rcases hx with rfl |rfl<;>omega,⟨a,by simp,h0⟩⟩
theorem Qud {s:Qaa}{a b:Int}:∃p q,Qge s [a,b]=[p,q]:=by
 have:(Qge s [a,b]).length=2:=by unfold Qge;rw[List.length_map,Qgf];rfl
 match h:Qge s [a,b],this with
 |[p,q],_=>exact⟨p,q,rfl⟩
theorem Qz1 {t:List GRow}(ht:tabB t=true) {x:Qaj}(hx:Zbb x) (hl:0≤x.Level∧x.Level≤(t.length:Int)-1) {s:Qaa}(hs:StrV s):Zeb x s (actE t x s):=by
 have hs':=hs
 obtain⟨a1,a2,a3,a4,a5,a6,a7,a8⟩:=hs'
 unfold actE
 by_cases h3:x.Kind=3
 ·rw[if_pos h3]
  have hc:0≤Qph x s∧Qph x s≤s.Heat:=by
   have:=hx.a3 h3
   unfold Qph;split<;>omega
  refine⟨fun y hy=>?_,?_,?_,?_,?_,?_,?_,?_,?_,?_,?_,?_⟩
  ·simp at hy;subst hy
   exact⟨a1,a2,by dsimp only;omega,by dsimp only;omega,a5,a6,a7,a8⟩
  ·simp[outl,h3]
  all_goals (try rw[Qgi])
  all_goals (dsimp only;omega)
 ·rw[if_neg h3]
  by_cases h4:x.Kind=4
  ·rw[if_pos h4]
   have hrow:=(Qyy ht (Qc6.2 hl)).2
   have hk:=Qth (r:=Qf7 t x.Level) hrow hs
   generalize flG (Qf7 t x.Level) s=p at hk
   obtain⟨k1,k2,k3,k4,k5,k6,k7,k8⟩:=hk
   have k1':=k1
   obtain⟨b1,b2,b3,b4,b5,b6,b7,b8⟩:=k1'
   have k2':=k2
   obtain⟨c1,c2,c3,c4,c5,c6,c7,c8⟩:=k2'
   by_cases h0:x.Amount=0
   ·rw[if_pos h0]
    refine⟨fun y hy=>?_,?_,?_,?_,?_,?_,?_,?_,?_,?_,?_,?_⟩
    ·simp at hy;rcases hy with rfl |rfl<;>assumption
    ·simp[outl,h4]
    all_goals (try rw[Qk7,Qgi])
    all_goals (dsimp only;omega)
   ·rw[if_neg h0]
    have ha:=hx.a4 h4
    have hw:=Q3u (a:=x.Amount) (by omega) ha.2
    obtain⟨u,v,hp⟩:=Qud (s:=p.Water) (a:=1000-x.Amount) (b:=x.Amount)
    have hK:=Qkc k2 hw
    rw[hp] at hK ⊢
    simp only[show([u,v]:List Qaa).getD 1 zs=v from rfl,show([u,v]:List Qaa).getD 0 zs=u from rfl]
    generalize Qjv p.Water [1000-x.Amount,x.Amount]=L at hK ⊢
    obtain⟨d0,d1,d2,d3,d4,d5,d6,d7⟩:=hK
    have hu:=d0 u (by simp)
    have hv:=d0 v (by simp)
    rw[Qk7,Qgi] at d1 d2 d3 d4
    dsimp only at d1 d2 d3 d4
    obtain⟨e1,e2,e3,e4,e5,e6,e7,e8⟩:=hu
    obtain⟨f1,f2,f3,f4,f5,f6,f7,f8⟩:=hv
    have et:totS [p.Steam,v]=⟨p.Steam.Mass+v.Mass,p.Steam.Heat+v.Heat,p.Steam.Silica+v.Silica,p.Steam.Gas+v.Gas⟩:=by rw[Qk7,Qgi]
    rw[et]
    refine⟨fun y hy=>?_,?_,?_,?_,?_,?_,?_,?_,?_,?_,?_,?_⟩
    ·simp at hy
     rcases hy with rfl |rfl
     ·refine⟨?_,?_,?_,?_,?_,?_,?_,?_⟩<;>dsimp only<;>omega
     ·exact⟨e1,e2,e3,e4,e5,e6,e7,e8⟩
    ·simp[outl,h4]
    all_goals (try rw[Qk7,Qgi])
    all_goals (dsimp only;omega)
  ·rw[if_neg h4]
   by_cases h5:x.Kind=5
   ·rw[if_pos h5]
    have hw:=hx.w5 h5
    have hK:=Qkc hs hw
    have hlen:(Qge s x.Weights).length=x.Weights.length:=by unfold Qge;rw[List.length_map,Qgf]
    generalize Qge s x.Weights=o at hK hlen ⊢
    generalize Qjv s x.Weights=L at hK ⊢
    obtain⟨d0,d1,d2,d3,d4,d5,d6,d7⟩:=hK
    refine⟨d0,by simp[outl,h5,hlen],d1,d2,?_,d4,d5,d6,d7,?_,?_,?_⟩<;>dsimp only<;>omega
   ·rw[if_neg h5]
    refine⟨fun y hy=>?_,?_,?_,?_,?_,?_,?_,?_,?_,?_,?_,?_⟩
    ·simp at hy;subst hy;exact hs
    ·simp[outl,h4,h5]
    all_goals (try rw[Qgi])
    all_goals (dsimp only;omega)
def Qjl (o:List (List Qaa)) (p:Qkk):Qaa:=((o.getD p.Element.toNat []).getD p.Outlet.toNat zs)
def insE (o:List (List Qaa)) (ws:List Qaa) (x:Qaj):List Qaa:=if x.Kind=1 then ws.take 1 else x.From.map (Qjl o)
def Qm4 (t:List GRow):List (Qaj×Int)→List Qaa→List (List Qaa)→List Qba→List Int→Int→Nat⊕(List (List Qaa)×List Qba×List Int×Int)
 |[],_,o,ls,ss,y=>.inr (o,ls,ss,y)
 |(x,d)::l,ws,o,ls,ss,y=>
  if (totS (insE o ws x)).Mass>widI x d then .inl o.length
  else Qm4 t l (if x.Kind=1 then ws.drop 1 else ws) (o++[(actE t x (totS (insE o ws x))).1]) (ls++[(actE t x (totS (insE o ws x))).2.1]) (ss++[d+(actE t x (totS (insE o ws x))).2.1.Scale]) (y+(actE t x (totS (insE o ws x))).2.2)
def Qhl (n:GNet) (i:Nat):List (Int×Int):=(n.Elements.take i).flatMap fun x=>x.From.map pq
def wcn (n:GNet) (i:Nat):Nat:=((n.Elements.take i).filter fun x=>decide (x.Kind=1)).length
structure FedV (n:GNet) (ws:List Qaa):Prop where
 len:ws.length=wcn n n.Elements.length
 v:∀s∈ws,StrV s
 m:(totS ws).Mass≤1000000
 g:(totS ws).Gas≤1000000000
structure InvT (n:GNet) (ws:List Qaa) (i:Nat) (o:List (List Qaa)) (ls:List Qba):Prop where
 lo:o.length=i
 ll:ls.length=i
 rows:∀(k:Nat) y r,n.Elements[k]? = some y→o[k]? = some r→(r.length:Int)=outl y
 v:∀r∈o,∀s∈r,StrV s
 m:Qf0 (fun s=>s.Mass) (Qhl n i) (Qgt 0 o)=(totS (ws.take (wcn n i))).Mass
 h:Qf0 (fun s=>s.Heat) (Qhl n i) (Qgt 0 o)+(ls.map fun l=>l.Heat).sum=(totS (ws.take (wcn n i))).Heat
 q:Qf0 (fun s=>s.Silica) (Qhl n i) (Qgt 0 o)+(ls.map fun l=>l.Silica).sum+(ls.map fun l=>l.Scale).sum=(totS (ws.take (wcn n i))).Silica
 g:Qf0 (fun s=>s.Gas) (Qhl n i) (Qgt 0 o)+(ls.map fun l=>l.Gas).sum=(totS (ws.take (wcn n i))).Gas
 l0:∀l∈ls,0≤l.Heat∧0≤l.Silica∧0≤l.Gas∧0≤l.Scale
theorem Qu5 (n:GNet) (ws:List Qaa):InvT n ws 0 [] []:=
 ⟨rfl,rfl,fun k y r _ h=>by simp at h,fun r h=>by simp at h,by simp[Qf0,Qgt,wcn,totS],by simp[Qf0,Qgt,wcn,totS],by simp[Qf0,Qgt,wcn,totS],by simp[Qf0,Qgt,wcn,totS],fun l h=>by simp at h⟩
theorem Qjj {α:Type}{l:List α}{i:Nat}{x:α}(h:l[i]? = some x):l.take (i+1)=l.take i++[x]:=by rw[List.take_add_one,h];rfl
theorem Qwi {n:GNet}{i:Nat}{x:Qaj}(h:n.Elements[i]? = some x):Qhl n (i+1)=Qhl n i++x.From.map pq:=by
 unfold Qhl
 rw[Qjj h,List.flatMap_append]
 simp
theorem Qll {n:GNet}{i:Nat}{x:Qaj}(h:n.Elements[i]? = some x):wcn n (i+1)=wcn n i+if x.Kind=1 then 1 else 0:=by
 unfold wcn
 rw[Qjj h,List.filter_append,List.length_append]
 by_cases hk:x.Kind=1<;>simp[hk]
theorem Q3m {n:GNet}{i:Nat}:wcn n i≤wcn n n.Elements.length:=by
 unfold wcn
 rw[List.take_length]
 exact((List.take_sublist i n.Elements).filter _).length_le
section
variable {n : GNet} (hv : NetV n) {ws : List Qaa} (hf : FedV n ws) {i : Nat} {o : List (List Qaa)} {ls : List Qba} (hI : InvT n ws i o ls) {x : Qaj} (hx : n.Elements[i]? = some x)
include hv hI hx in
theorem Qof {p:Qkk}(hp:p∈x.From):(pq p,Qjl o p)∈Qgt 0 o∧StrV (Qjl o p)∧(∃r,o[p.Element.toNat]? = some r∧r[p.Outlet.toNat]? = some (Qjl o p)):=by
 obtain⟨h1,h2,y,h3,h4,h5,_⟩:=hv.port i x p hx hp
 have hlt:p.Element.toNat<o.length:=by rw[hI.lo];omega
 have hr:o[p.Element.toNat]? = some (o[p.Element.toNat]):=List.getElem?_eq_getElem hlt
 have hl:=hI.rows _ y _ h3 hr
 have hlt2:p.Outlet.toNat<(o[p.Element.toNat]).length:=by omega
 have hs:(o[p.Element.toNat])[p.Outlet.toNat]? = some ((o[p.Element.toNat])[p.Outlet.toNat]):=List.getElem?_eq_getElem hlt2
 have e:Qjl o p=(o[p.Element.toNat])[p.Outlet.toNat]:=by
  unfold Qjl
  rw[List.getD_eq_getElem?_getD,List.getD_eq_getElem?_getD,hr,Option.getD_some,hs,Option.getD_some]
 rw[e]
 refine⟨Qnn.2 ⟨by simpa using h1,h4,_,?_,hs⟩,hI.v _ (List.getElem_mem hlt) _ (List.getElem_mem hlt2),_,hr,hs⟩
 rw[show(p.Element-((0:Nat):Int)).toNat=p.Element.toNat by simp]
 exact hr
include hv hx in
theorem Q0z:(x.From.map pq).Nodup∧∀p∈x.From.map pq,p∉Qhl n i:=by
 have hd:=hv.dist
 have hi:=(List.getElem?_eq_some_iff.1 hx).1
 have e:n.Elements=n.Elements.take i++x::n.Elements.drop (i+1):=by
  rw[←List.take_append_drop i n.Elements]
  congr 1
  ·simp
  ·rw[List.take_append_drop,List.drop_eq_getElem_cons hi]
   rw[List.getElem?_eq_getElem hi] at hx
   cases hx
   rfl
 rw[e,List.flatMap_append,List.flatMap_cons,List.nodup_append,List.nodup_append] at hd
 obtain⟨_,⟨h2,_,_⟩,h3⟩:=hd
 exact⟨h2,fun p hp hu=>h3 p hu p (List.mem_append_left _ hp) rfl⟩
include hv hI hx in
theorem Qp3 (f:Qaa→Int):Qf0 f (Qhl n (i+1)) (Qgt 0 o)=Qf0 f (Qhl n i) (Qgt 0 o)-((x.From.map (Qjl o)).map f).sum:=by
 obtain⟨h1,h2⟩:=Q0z hv hx
 rw[Qwi hx,Qqn (V:=x.From.map pq++Qhl n i) (fun y _=>by simp[or_comm])]
 refine Qqm f (Qqy o 0) _ _ _ (by simp) (fun j p s hp hs=>?_) h1 h2
 rw[List.getElem?_map,Option.map_eq_some_iff] at hp hs
 obtain⟨a,ha,rfl⟩:=hp
 obtain⟨b,hb,rfl⟩:=hs
 rw[ha] at hb
 cases hb
 exact(Qof hv hI hx (List.mem_of_getElem? ha)).1
include hv in
theorem Q74 (f:Qaa→Int) (r:List Qaa) (hlo:o.length=i):Qf0 f (Qhl n (i+1)) (Qgt 0 (o++[r]))=Qf0 f (Qhl n (i+1)) (Qgt 0 o)+(r.map f).sum:=by
 rw[Qo3,Quw,Nat.zero_add,hlo,Qva]
 congr 1
 refine Quv f (fun p hp=>?_) r 0
 unfold Qhl at hp
 obtain⟨y,hy,hp⟩:=List.mem_flatMap.1 hp
 obtain⟨q,hq,rfl⟩:=List.mem_map.1 hp
 obtain⟨k,hk,e⟩:=List.mem_take_iff_getElem.1 hy
 have:=(hv.port k y q (by rw[←e];exact List.getElem?_eq_getElem (by omega)) hq).2.1
 intro he
 have:(pq q).1=q.Element:=rfl
 omega
include hI in
theorem Q4p (f:Qaa→Int) (hf0:∀s,StrV s→0≤f s) (U:List (Int×Int)):0≤Qf0 f U (Qgt 0 o):=by
 refine Qo0 fun y hy=>?_
 obtain⟨⟨a,b⟩,s⟩:=y
 obtain⟨_,_,r,h1,h2⟩:=Qnn.1 hy
 exact hf0 _ (hI.v r (List.mem_of_getElem? h1) s (List.mem_of_getElem? h2))
include hf in
theorem Qyq (k:Nat):(totS (ws.take k)).Mass≤1000000∧(totS (ws.take k)).Gas≤1000000000:=by
 have h:=Qwj (ws.take k) (ws.drop k)
 rw[List.take_append_drop] at h
 have hm:=hf.m
 have hg:=hf.g
 rw[h] at hm hg
 have hd:=Qn9 fun s hs=>hf.v s (List.mem_of_mem_drop (i:=k) hs)
 have:=hd.m0
 have:=hd.g0
 dsimp only at hm hg
 omega
theorem Ql2 {α:Type}(f:α→Int):∀(l:List α),(∀x∈l,0≤f x)→0≤(l.map f).sum
 |[],_=>by simp
 |x::l,h=>by
  have h1:=Ql2 f l fun y hy=>h y (List.mem_cons_of_mem x hy)
  have h2:=h x List.mem_cons_self
  simp only[List.map_cons,List.sum_cons]
  omega
include hv hf hI hx in
theorem Za3:(∀s∈insE o (ws.drop (wcn n i)) x,StrV s)∧StrV (totS (insE o (ws.drop (wcn n i)) x)):=by
 have hxm:=List.mem_of_getElem? hx
 by_cases h1:x.Kind=1
 ·have e:insE o (ws.drop (wcn n i)) x=(ws.drop (wcn n i)).take 1:=by unfold insE;rw[if_pos h1]
  rw[e]
  have hw:=Qll hx
  rw[if_pos h1] at hw
  have hle:=Q3m (n:=n) (i:=i+1)
  have hlt:wcn n i<ws.length:=by rw[hf.len];omega
  rw[List.drop_eq_getElem_cons hlt]
  have hs:=hf.v _ (List.getElem_mem hlt)
  rw[List.take_succ_cons,List.take_zero,Qgi]
  exact⟨fun s h=>by rw[List.mem_singleton] at h;rw[h];exact hs,hs⟩
 ·have e:insE o (ws.drop (wcn n i)) x=x.From.map (Qjl o):=by unfold insE;rw[if_neg h1]
  rw[e]
  have hall:∀s∈x.From.map (Qjl o),StrV s:=fun s hs=>by
   obtain⟨p,hp,rfl⟩:=List.mem_map.1 hs
   exact(Qof hv hI hx hp).2.1
  refine⟨hall,Q7n hall ?_ ?_⟩
  ·have h2:=Qp3 hv hI hx (fun s=>s.Mass)
   have h3:=Q4p hI (fun s=>s.Mass) (fun s hs=>hs.m0) (Qhl n (i+1))
   have h4:=(Qyq hf (wcn n i)).1
   rw[←hI.m] at h4
   show((x.From.map (Qjl o)).map fun s=>s.Mass).sum≤_
   omega
  ·have h2:=Qp3 hv hI hx (fun s=>s.Gas)
   have h3:=Q4p hI (fun s=>s.Gas) (fun s hs=>hs.g0) (Qhl n (i+1))
   have h4:=(Qyq hf (wcn n i)).2
   have h5:=Ql2 (fun l:Qba=>l.Gas) ls fun l hl=>(hI.l0 l hl).2.2.1
   rw[←hI.g] at h4
   show((x.From.map (Qjl o)).map fun s=>s.Gas).sum≤_
   omega
include hv hf hI hx in
theorem Qpo (f:Qaa→Int) (hf1:∀l m:List Qaa,((l++m).map f).sum=(l.map f).sum+(m.map f).sum) (r:List Qaa) :
  Qf0 f (Qhl n (i+1)) (Qgt 0 (o++[r]))=Qf0 f (Qhl n i) (Qgt 0 o)+((ws.take (wcn n (i+1))).map f).sum-((ws.take (wcn n i)).map f).sum-((insE o (ws.drop (wcn n i)) x).map f).sum+(r.map f).sum:=by
 rw[Q74 hv f r hI.lo,Qp3 hv hI hx f]
 by_cases h1:x.Kind=1
 ·have e:insE o (ws.drop (wcn n i)) x=(ws.drop (wcn n i)).take 1:=by unfold insE;rw[if_pos h1]
  have hw:=Qll hx
  rw[if_pos h1] at hw
  have hle:=Q3m (n:=n) (i:=i+1)
  have hlt:wcn n i<ws.length:=by rw[hf.len];omega
  have hfr:=(Qn4 (hv.alone x (List.mem_of_getElem? hx))).well h1
  rw[e,hfr,hw,Qjj (List.getElem?_eq_getElem hlt),hf1,List.drop_eq_getElem_cons hlt]
  simp only[List.map_nil,List.sum_nil,List.take_succ_cons,List.take_zero,List.map_cons,List.sum_cons]
  omega
 ·have e:insE o (ws.drop (wcn n i)) x=x.From.map (Qjl o):=by unfold insE;rw[if_neg h1]
  have hw:=Qll hx
  rw[if_neg h1] at hw
  rw[e,hw,Nat.add_zero]
  omega
include hv hf hI hx in
theorem Qze {a:List Qaa×Qba×Int}(ha:Zeb x (totS (insE o (ws.drop (wcn n i)) x)) a):InvT n ws (i+1) (o++[a.1]) (ls++[a.2.1]):=by
 obtain⟨k1,k2,k3,k4,k5,k6,k7,k8,k9,k10,_,_⟩:=ha
 have sa:∀f:Qaa→Int,∀l m:List Qaa,((l++m).map f).sum=(l.map f).sum+(m.map f).sum:=fun f l m=>by simp
 refine⟨by simp[hI.lo],by simp[hI.ll],fun k y r hy hr=>?_,fun r hr s hs=>?_,?_,?_,?_,?_,fun l hl=>?_⟩
 ·by_cases hk:k<i
  ·rw[List.getElem?_append_left (by rw[hI.lo];exact hk)] at hr
   exact hI.rows k y r hy hr
  ·rw[List.getElem?_append_right (by rw[hI.lo];omega),hI.lo] at hr
   have:k=i:=by
    have:=(List.getElem?_eq_some_iff.1 hr).1
    simp at this
    omega
   subst this
   rw[hx] at hy
   cases hy
   simp at hr
   subst hr
   exact k2
 ·rcases List.mem_append.1 hr with hr |hr
  ·exact hI.v r hr s hs
  ·simp at hr;subst hr;exact k1 s hs
 ·rw[Qpo hv hf hI hx _ (sa _),hI.m]
  have e1:(a.1.map fun s=>s.Mass).sum=(totS a.1).Mass:=rfl
  have e2:((insE o (ws.drop (wcn n i)) x).map fun s=>s.Mass).sum=(totS (insE o (ws.drop (wcn n i)) x)).Mass:=rfl
  have e3:∀k,((ws.take k).map fun s=>s.Mass).sum=(totS (ws.take k)).Mass:=fun _=>rfl
  rw[e1,e2,e3,e3]
  omega
 ·rw[Qpo hv hf hI hx _ (sa _)]
  have e1:(a.1.map fun s=>s.Heat).sum=(totS a.1).Heat:=rfl
  have e2:((insE o (ws.drop (wcn n i)) x).map fun s=>s.Heat).sum=(totS (insE o (ws.drop (wcn n i)) x)).Heat:=rfl
  have e3:∀k,((ws.take k).map fun s=>s.Heat).sum=(totS (ws.take k)).Heat:=fun _=>rfl
  have h:=hI.h
  rw[e1,e2,e3,e3,List.map_append,List.sum_append]
  simp only[List.map_cons,List.map_nil,List.sum_cons,List.sum_nil]
  omega
 ·rw[Qpo hv hf hI hx _ (sa _)]
  have e1:(a.1.map fun s=>s.Silica).sum=(totS a.1).Silica:=rfl
  have e2:((insE o (ws.drop (wcn n i)) x).map fun s=>s.Silica).sum=(totS (insE o (ws.drop (wcn n i)) x)).Silica:=rfl
  have e3:∀k,((ws.take k).map fun s=>s.Silica).sum=(totS (ws.take k)).Silica:=fun _=>rfl
  have h:=hI.q
  rw[e1,e2,e3,e3,List.map_append,List.sum_append,List.map_append,List.sum_append]
  simp only[List.map_cons,List.map_nil,List.sum_cons,List.sum_nil]
  omega
 ·rw[Qpo hv hf hI hx _ (sa _)]
  have e1:(a.1.map fun s=>s.Gas).sum=(totS a.1).Gas:=rfl
  have e2:((insE o (ws.drop (wcn n i)) x).map fun s=>s.Gas).sum=(totS (insE o (ws.drop (wcn n i)) x)).Gas:=rfl
  have e3:∀k,((ws.take k).map fun s=>s.Gas).sum=(totS (ws.take k)).Gas:=fun _=>rfl
  have h:=hI.g
  rw[e1,e2,e3,e3,List.map_append,List.sum_append]
  simp only[List.map_cons,List.map_nil,List.sum_cons,List.sum_nil]
  omega
 ·rcases List.mem_append.1 hl with hl |hl
  ·exact hI.l0 l hl
  ·simp at hl;subst hl;exact⟨k7,k8,k9,k10⟩
include hv hf hI hx in
theorem Qzf:Zeb x (totS (insE o (ws.drop (wcn n i)) x)) (actE n.Table x (totS (insE o (ws.drop (wcn n i)) x))):=
 Qz1 hv.tab (Qn4 (hv.alone x (List.mem_of_getElem? hx))) (hv.level x (List.mem_of_getElem? hx)) (Za3 hv hf hI hx).2
end
end
section
def ofL (k:Int):Nat→List Qaj→List Int
 |_,[]=>[]
 |i,x::l=>if x.Kind=k then(i:Int)::ofL k (i+1) l else ofL k (i+1) l
theorem Qqo (k:Int):∀(l:List Qaj) (i:Nat),(ofL k i l).length=(l.filter fun x=>decide (x.Kind=k)).length
 |[],_=>rfl
 |x::l,i=>by
  rw[ofL,List.filter_cons]
  by_cases h:x.Kind=k
  ·rw[if_pos h,if_pos (by simpa using h),List.length_cons,List.length_cons,Qqo k l]
  ·rw[if_neg h,if_neg (by simpa using h),Qqo k l]
theorem Qw0 (k:Int):∀(l:List Qaj) (i:Nat),∀z∈ofL k i l,(i:Int)≤z∧z<(i:Int)+l.length
 |[],_,z,h=>by simp[ofL] at h
 |x::l,i,z,h=>by
  rw[ofL] at h
  simp only[List.length_cons]
  by_cases hk:x.Kind=k
  ·rw[if_pos hk] at h
   rcases List.mem_cons.1 h with rfl |h
   ·omega
   ·have:=Qw0 k l (i+1) z h;omega
  ·rw[if_neg hk] at h
   have:=Qw0 k l (i+1) z h;omega
theorem Qr0 (k:Int):∀(l m:List Qaj) (i:Nat),ofL k i (l++m)=ofL k i l++ofL k (i+l.length) m
 |[],m,i=>by simp[ofL]
 |x::l,m,i=>by
  rw[List.cons_append,ofL,ofL,Qr0 k l m (i+1),List.length_cons,show i+1+l.length=i+(l.length+1) by omega]
  by_cases h:x.Kind=k
  ·rw[if_pos h,if_pos h,List.cons_append]
  ·rw[if_neg h,if_neg h]
section
variable {N : Nat} {n : GNet} (hs : Qrr n) (hN : 1001 ≤ N)
include hs in
theorem Zcs (k:Int) (c:List Int→Option (List Int)):∀(m i:Nat) (acc:List Int),(n.Elements.drop i).length<m→acc.length≤i→Qde N n k c m acc i=c (acc++ofL k i (n.Elements.drop i)):=by
 intro m
 induction m with
 |zero=>intro i _ h;cases h
 |succ m ih=>
  intro i acc h ha
  rw[Qde]
  cases hd:n.Elements.drop i with
  |nil=>
   have:=Qdv hd
   simp[show ¬((i:Int)<n.Elements.length) from by omega,ofL]
  |cons x l=>
   obtain⟨hg,hd',hlt⟩:=Qc4 hd
   have e0:=hs.e
   simp only[dlI hlt,cond_true,Qcn hg,Option.bind_some]
   rw[w64S (i:=i) (by omega),ofL]
   by_cases hk:x.Kind=k
   ·rw[show(x.Kind==k)=true by simpa using hk,cond_true,if_pos hk]
    simp only[chk]
    rw[show decide ((acc.length+[(i:Int)].length)*8≤140737488355328)=true by simp;omega,cond_true,ih (i+1) _ (dlt hd hd' h) (by simp;omega),hd',List.append_assoc]
    rfl
   ·rw[show(x.Kind==k)=false by simpa using hk,cond_false,if_neg hk,ih (i+1) _ (dlt hd hd' h) (by omega),hd']
include hs hN in
theorem Za0 (k:Int):Qgx N n k=some (ofL k 0 n.Elements):=by
 have e0:=hs.e
 unfold Qgx
 simp only[Qb7]
 refine(Zcs hs k _ N 0 [] (by simp;omega) (by simp)).trans ?_
 rw[List.drop_zero,List.nil_append]
theorem Q0x (P S:List Int) (p:Int) (hp:p∉P) (hl:P.length≤1000) (k:Unit→Option Int):∀(m i:Nat),P.length-i<m→i≤P.length→Qb6 N (P++p::S) k p m i=some (P.length:Int):=by
 intro m
 induction m with
 |zero=>intro i h;cases h
 |succ m ih=>
  intro i h hi
  rw[Qb6]
  rw[show decide ((i:Int)<((P++p::S).length:Int))=true by simp;omega,cond_true]
  by_cases hlt:i<P.length
  ·have hg:(P++p::S)[i]? = some P[i]:=by rw[List.getElem?_append_left hlt,List.getElem?_eq_getElem hlt]
   rw[Qcn hg,Option.bind_some,show(p==P[i])=false by rw[beq_eq_false_iff_ne];intro e;exact hp (e▸List.getElem_mem hlt),cond_false,w64S (i:=i) (by omega)]
   exact ih (i+1) (by omega) (by omega)
  ·have e:i=P.length:=by omega
   subst e
   have hg:(P++p::S)[P.length]? = some p:=by rw[List.getElem?_append_right (Nat.le_refl _)];simp
   rw[Qcn hg,Option.bind_some,beq_self_eq_true,cond_true]
include hs hN in
theorem Zb7 {i:Nat}{x:Qaj}(hx:n.Elements[i]? = some x) (h1:x.Kind=1):Qd7 N (ofL 1 0 n.Elements) i=some (wcn n i:Int):=by
 have hi:=(List.getElem?_eq_some_iff.1 hx).1
 have e0:=hs.e
 have e:n.Elements=n.Elements.take i++x::n.Elements.drop (i+1):=by
  have:n.Elements.drop i=x::n.Elements.drop (i+1):=by
   rw[List.drop_eq_getElem_cons hi]
   rw[List.getElem?_eq_getElem hi] at hx
   cases hx
   rfl
  rw[←this,List.take_append_drop]
 have hlt:(n.Elements.take i).length=i:=by rw[List.length_take];omega
 have e2:ofL 1 0 n.Elements=ofL 1 0 (n.Elements.take i)++(i:Int)::ofL 1 (i+1) (n.Elements.drop (i+1)):=by
  have e3:ofL 1 0 n.Elements=ofL 1 0 (n.Elements.take i++x::n.Elements.drop (i+1)):=congrArg (ofL 1 0) e
  rw[e3,Qr0,hlt,ofL,if_pos h1,Nat.zero_add]
 have hlen:(ofL 1 0 (n.Elements.take i)).length=wcn n i:=Qqo 1 _ 0
 have hb:wcn n i≤18:=by
  rw[←hlen,Qqo]
  have:=List.length_filter_le (fun x:Qaj=>decide (x.Kind=1)) (n.Elements.take i)
  omega
 unfold Qd7
 simp only[Qb7]
 rw[e2]
 have:=Q0x (N:=N) (ofL 1 0 (n.Elements.take i)) (ofL 1 (i+1) (n.Elements.drop (i+1))) (i:Int) (fun hm=>by
  have:=Qw0 1 _ 0 _ hm
  omega) (by omega) (fun _=>some (-1)) N 0 (by omega) (Nat.zero_le _)
 rw[hlen] at this
 exact this
theorem Ql4 (k:List Qaa→Option (List Qaa)):∀(q y:List Qaa),y.length+q.length≤1000→Qas N k q y=k (y++q)
 |[],y,_=>by simp[Qas]
 |x::q,y,h=>by
  have hc:decide ((y.length+[x].length)*32≤140737488355328)=true:=by simp at h ⊢;omega
  rw[Qas]
  simp only[chk]
  rw[hc,cond_true,Ql4 k q _ (by simp at h ⊢;omega)]
  simp
end
section
variable {N : Nat} {n : GNet} (hs : Qrr n) (hN : 1001 ≤ N) (hv : NetV n) {ws : List Qaa} (hf : FedV n ws) {i : Nat} {o : List (List Qaa)} {ls : List Qba} (hI : InvT n ws i o ls) {x : Qaj} (hx : n.Elements[i]? = some x)
include hv hI hx in
theorem Q5e (hfr:x.From.length≤1000) (R:List (List Qaa)):∀(m j:Nat),(x.From.drop j).length<m→Qcu N x (o++R) m j=some ((x.From.drop j).map (Qjl o)):=by
 intro m
 induction m with
 |zero=>intro j h;cases h
 |succ m ih=>
  intro j h
  rw[Qcu]
  cases hd:x.From.drop j with
  |nil=>
   have:=Qdv hd
   simp[show ¬((j:Int)<x.From.length) from by omega]
  |cons p l=>
   obtain⟨hg,hd',hlt⟩:=Qc4 hd
   have hpm:=List.mem_of_getElem? hg
   obtain⟨p1,_,_,_,p4,_,_⟩:=hv.port i x p hx hpm
   obtain⟨_,_,r,hr,hr2⟩:=Qof hv hI hx hpm
   have g1:getI (o++R) p.Element=some r:=by
    unfold getI
    rw[if_pos p1,List.getElem?_append_left (List.getElem?_eq_some_iff.1 hr).1,hr]
   have g2:getI r p.Outlet=some (Qjl o p):=by
    unfold getI
    rw[if_pos p4,hr2]
   simp only[dlI hlt,cond_true,Qcn hg,Option.bind_some,g1,g2]
   rw[w64S (i:=j) (by omega),ih (j+1) (dlt hd hd' h),hd']
   rfl
include hs hN hv hf hI hx in
theorem Zcz (R:List (List Qaa)) (L:List Qba) (S:List Int) (y:Int):Qbp N n.Table n.Elements (o++R) L S ws y i=some (insE o (ws.drop (wcn n i)) x):=by
 have hxs:=hs.x x (List.mem_of_getElem? hx)
 have hS:Qfh N n.Table n.Elements (o++R) L S ws y i=some (insE o (ws.drop (wcn n i)) x):=by
  unfold Qfh insE
  rw[Qcn hx,Option.bind_some]
  by_cases h1:x.Kind=1
  ·rw[show(x.Kind==1)=true by simpa using h1,cond_true,if_pos h1]
   have hw:=Qll hx
   rw[if_pos h1] at hw
   have hle:=Q3m (n:=n) (i:=i+1)
   have hlt:wcn n i<ws.length:=by rw[hf.len];omega
   rw[Za0 hs hN 1,Option.bind_some,Zb7 hs hN hx h1,Option.bind_some,Qcn (List.getElem?_eq_getElem hlt),Option.bind_some,List.drop_eq_getElem_cons hlt]
   rfl
  ·rw[show(x.Kind==1)=false by simpa using h1,cond_false,if_neg h1]
   have:=Q5e (N:=N) hv hI hx (by omega) R N 0 (by simp;omega)
   rw[List.drop_zero] at this
   exact this
 unfold Qbp Qbz
 simp only[Qb7,hS,Option.bind_some]
 have hlen:(insE o (ws.drop (wcn n i)) x).length≤100:=by
  unfold insE
  split
  ·rw[List.length_take];omega
  ·rw[List.length_map];omega
 rw[Ql4 _ _ _ (by simp;omega)]
 rfl
end
theorem Qpm {α:Type}{l:List α}{i:Nat}{x:α}(h:l[i]? = some x):l.set i x=l:=by
 obtain⟨h1,h2⟩:=List.getElem?_eq_some_iff.1 h
 subst h2
 exact List.set_getElem_self h1
section
variable {N : Nat} {n : GNet} (hN : 1001 ≤ N) (hv : NetV n) (ht : n.Table.length ≤ 1000) {i : Nat} {x : Qaj} (hx : n.Elements[i]? = some x) {s : Qaa} (hst : StrV s) {D nW : Nat} {ws : List Qaa} {y : Int} {O : List (List Qaa)} {Ls : List Qba} {Ss : List Int} {d : Int}
 (hlo:i<D) (hLs:Ls[i]? = some ⟨0,0,0,0⟩) (hSs:Ss[i]? = some d) (hd0:0≤d) (hd1:d≤1000000000000000) (hO:∃r,O[i]? = some r) (hy0:0≤y) (hy1:y≤1000000000)
include hN hst hlo in
theorem Qui {wts:List Int}(hw:WtsV wts) {l0:Qba}(hL:Ls[i]? = some l0) (hl:i<Ls.length):Qed N i s wts n.Table n.Elements D D nW ws y O Ls Ss=some (Qge s wts,Ls.set i ⟨(Qjv s wts).Heat,(Qjv s wts).Silica,(Qjv s wts).Gas,l0.Scale⟩):=by
 have c1:(decide ((0:Int)≤(i:Int))&&decide (i<D))=true:=by simp;omega
 have e:∀q:Qba,(Ls.set i q)[i]? = some q:=fun q=>List.getElem?_set_self hl
 unfold Qed
 rw[Q7v hst hw hN]
 simp only[Option.bind_some,chk,c1,cond_true,Int.toNat_natCast,hL,e,List.set_set]
include hN hv ht hx hst hlo hLs hSs hd0 hd1 hy0 hy1 in
theorem Qwo (hln:i<Ls.length) (h4:x.Kind=4):Qd8 N i s n.Table n.Elements D D D ws y O Ls Ss=some ((actE n.Table x s).1,y+(actE n.Table x s).2.2,Ls.set i (actE n.Table x s).2.1,Ss.set i (d+(actE n.Table x s).2.1.Scale)):=by
 have hxm:=List.mem_of_getElem? hx
 have hA:=Qn4 (hv.alone x hxm)
 have hlv:=hv.level x hxm
 have hrow:=(Qyy hv.tab (Qc6.2 hlv)).2
 have hk:=Qth (r:=Qf7 n.Table x.Level) hrow hst
 have hK:=Qz1 hv.tab hA hlv hst
 have c1:(decide ((0:Int)≤(i:Int))&&decide (i<D))=true:=by simp;omega
 have ef:Qzi n.Table x.Level s=(flG (Qf7 n.Table x.Level) s,0):=by
  unfold Qzi Qf7
  rw[hv.tab,Qjk.2 hst,Qc6.2 hlv];rfl
 have hq1:=hst.s1
 have hm1:=hst.m1
 have cv:=Qn9 hK.v
 have:=cv.s0
 unfold Qd8
 simp only[Qcn hx,Option.bind_some,Q8e hN ht,ef,chk,c1,cond_true,Int.toNat_natCast,hLs,hSs]
 by_cases h0:x.Amount=0
 ·have ha:actE n.Table x s=([(flG (Qf7 n.Table x.Level) s).Steam,(flG (Qf7 n.Table x.Level) s).Water],⟨0,0,0,(flG (Qf7 n.Table x.Level) s).Scale⟩,(flG (Qf7 n.Table x.Level) s).Steam.Mass):=by
   unfold actE
   rw[if_neg (show ¬x.Kind=3 by omega),if_pos h4,if_pos h0]
  rw[ha] at hK
  obtain⟨_,_,_,_,cs,_,_,cq,_,cc,t0,t1⟩:=hK
  dsimp only at t0 t1 cs cc cq
  have:=hk.km
  have:=hk.wa.m0
  have:=hk.ks
  have:=hk.wa.s0
  rw[ha,show(x.Amount==0)=true by simpa using h0,cond_true]
  rw[Qbb (x:=y+_) (by omega) (by omega),Qbb (x:=d+_) (by omega) (by omega)]
 ·have ha:actE n.Table x s=([totS [(flG (Qf7 n.Table x.Level) s).Steam,(Qge (flG (Qf7 n.Table x.Level) s).Water [1000-x.Amount,x.Amount]).getD 1 zs],(Qge (flG (Qf7 n.Table x.Level) s).Water [1000-x.Amount,x.Amount]).getD 0 zs],
   ⟨(Qjv (flG (Qf7 n.Table x.Level) s).Water [1000-x.Amount,x.Amount]).Heat,(Qjv (flG (Qf7 n.Table x.Level) s).Water [1000-x.Amount,x.Amount]).Silica,(Qjv (flG (Qf7 n.Table x.Level) s).Water [1000-x.Amount,x.Amount]).Gas,(flG (Qf7 n.Table x.Level) s).Scale⟩,(flG (Qf7 n.Table x.Level) s).Steam.Mass):=by
   unfold actE
   rw[if_neg (show ¬x.Kind=3 by omega),if_pos h4,if_neg h0]
  have hav:=hA.a4 h4
  have hw:=Q3u (a:=x.Amount) (by omega) hav.2
  have:=hk.km
  have:=hk.st.m0
  have:=hk.wa.m0
  have:=hk.ks
  have:=hk.wa.s0
  have:=hk.sc
  rw[ha,show(x.Amount==0)=false by simpa using h0,cond_false,Qbb (x:=y+_) (by omega) (by omega),Qbb (x:=d+_) (by omega) (by omega),Qbb (x:=1000-x.Amount) (by omega) (by omega)]
  have hsh:=Qui (N:=N) (n:=n) (nW:=D) (ws:=ws) (y:=y+(flG (Qf7 n.Table x.Level) s).Steam.Mass) (O:=O) (Ss:=Ss.set i (d+(flG (Qf7 n.Table x.Level) s).Scale)) (Ls:=Ls.set i ⟨0,0,0,(flG (Qf7 n.Table x.Level) s).Scale⟩) (l0:=⟨0,0,0,(flG (Qf7 n.Table x.Level) s).Scale⟩) hN hk.wa hlo hw (List.getElem?_set_self hln) (by rw[List.length_set];exact hln)
  obtain⟨u,v,hp⟩:=Qud (s:=(flG (Qf7 n.Table x.Level) s).Water) (a:=1000-x.Amount) (b:=x.Amount)
  have hKp:=Qkc hk.wa hw
  rw[hp] at hsh hKp ⊢
  have htot:Qes N [(flG (Qf7 n.Table x.Level) s).Steam,v]=some (totS [(flG (Qf7 n.Table x.Level) s).Steam,v]):=by
   rw[Qwk (by simp) hN,Qst (fun z hz=>by
    simp at hz
    rcases hz with rfl |rfl
    ·exact hk.st
    ·exact hKp.v _ (by simp)) (by simp)]
  refine(congrArg (fun z=>Option.bind z _) hsh).trans ?_
  simp only[Option.bind_some,show getI [u,v] 1=some v from rfl,show getI [u,v] 0=some u from rfl,List.set_set]
  exact congrArg (fun z=>Option.bind z _) htot
include hN hv ht hx hst hlo hLs hSs hd0 hd1 hO hy0 hy1 in
theorem Zdw (hln:i<Ls.length) (hD:D=O.length) (hDl:D=Ls.length) (hDs:D=Ss.length) {w:Int}(hw:s.Mass≤w) {ins:List Qaa}(hin:Qbp N n.Table n.Elements O Ls Ss ws y i=some ins) (htot:Qes N ins=some s) :
  Qcl N i w n.Table n.Elements D D D ws y O Ls Ss=some (.inl (y+(actE n.Table x s).2.2,O.set i (actE n.Table x s).1,Ls.set i (actE n.Table x s).2.1,Ss.set i (d+(actE n.Table x s).2.1.Scale))):=by
 have hxm:=List.mem_of_getElem? hx
 have hA:=Qn4 (hv.alone x hxm)
 obtain⟨r,hr⟩:=hO
 have c1:(decide ((0:Int)≤(i:Int))&&decide (i<D))=true:=by simp;omega
 unfold Qcl
 simp only[Qfi,Option.bind_some,chk,Qb7,show decide (D≤O.length)=true by simp;omega,show decide (D≤Ls.length)=true by simp;omega,show decide (D≤Ss.length)=true by simp;omega,cond_true]
 rw[show O.take D=O from by rw[hD,List.take_length],show Ls.take D=Ls from by rw[hDl,List.take_length],show Ss.take D=Ss from by rw[hDs,List.take_length],hin,Option.bind_some,htot,Option.bind_some,decide_eq_false (show ¬s.Mass>w by omega),cond_false,Qcn hx,Option.bind_some]
 simp only[c1,cond_true,Int.toNat_natCast,hr,Option.bind_some,Qen]
 have hpass:(actE n.Table x s)=([s],⟨0,0,0,0⟩,0)→(y,O.set i [s],Ls,Ss)=(y+(actE n.Table x s).2.2,O.set i (actE n.Table x s).1,Ls.set i (actE n.Table x s).2.1,Ss.set i (d+(actE n.Table x s).2.1.Scale)):=fun e=>by
  rw[e]
  simp only[Int.add_zero]
  rw[Qpm hLs,Qpm hSs]
 by_cases h1:x.Kind=1
 ·rw[h1]
  simp only[show((1:Int)==0)=false from rfl,show((1:Int)==1)=true from rfl,cond_true,cond_false]
  rw[hpass (by unfold actE;rw[if_neg (by omega),if_neg (by omega),if_neg (by omega)])]
 by_cases h2:x.Kind=2
 ·rw[h2]
  simp only[show((2:Int)==0)=false from rfl,show((2:Int)==1)=false from rfl,show((2:Int)==2)=true from rfl,cond_true,cond_false]
  rw[hpass (by unfold actE;rw[if_neg (by omega),if_neg (by omega),if_neg (by omega)])]
 by_cases h3:x.Kind=3
 ·rw[h3]
  simp only[show((3:Int)==0)=false from rfl,show((3:Int)==1)=false from rfl,show((3:Int)==2)=false from rfl,show((3:Int)==3)=true from rfl,cond_true,cond_false]
  have e:actE n.Table x s=([⟨s.Mass,s.Heat-Qph x s,s.Silica,s.Gas⟩],⟨Qph x s,0,0,0⟩,0):=by unfold actE;rw[if_pos h3]
  have hc:0≤Qph x s∧Qph x s≤s.Heat:=by
   have:=hA.a3 h3
   have:=hst.h0
   unfold Qph;split<;>omega
  have:=hst.h1
  have:=hst.m1
  unfold Qgk
  simp only[Qcn hx,Option.bind_some,chk,c1,cond_true,Int.toNat_natCast,hLs]
  rw[show(if s.Heat<x.Amount then s.Heat else x.Amount)=Qph x s from rfl,Qbb (x:=s.Heat-Qph x s) (by omega) (by omega),e]
  simp only[Int.add_zero]
  rw[Qpm hSs]
 by_cases h4:x.Kind=4
 ·have hsep:=Qwo (N:=N) hN hv ht hx hst (ws:=ws) (O:=O) hlo hLs hSs hd0 hd1 hy0 hy1 hln h4
  rw[h4]
  simp only[show((4:Int)==0)=false from rfl,show((4:Int)==1)=false from rfl,show((4:Int)==2)=false from rfl,show((4:Int)==3)=false from rfl,show((4:Int)==4)=true from rfl,cond_true,cond_false,hsep,Option.bind_some]
 by_cases h5:x.Kind=5
 ·have hsh:=Qui (N:=N) (n:=n) (nW:=D) (ws:=ws) (y:=y) (O:=O) (Ss:=Ss) (Ls:=Ls) hN hst hlo (hA.w5 h5) hLs hln
  have e:actE n.Table x s=(Qge s x.Weights,⟨(Qjv s x.Weights).Heat,(Qjv s x.Weights).Silica,(Qjv s x.Weights).Gas,0⟩,0):=by unfold actE;rw[if_neg h3,if_neg h4,if_pos h5]
  rw[h5]
  unfold Qf8
  simp only[show((5:Int)==0)=false from rfl,show((5:Int)==1)=false from rfl,show((5:Int)==2)=false from rfl,show((5:Int)==3)=false from rfl,show((5:Int)==4)=false from rfl,show((5:Int)==5)=true from rfl,cond_true,cond_false,Qcn hx,Option.bind_some,hsh,e,Int.add_zero]
  rw[Qpm hSs]
 have h6:x.Kind=6:=by have:=hA.k;omega
 rw[h6]
 simp only[show((6:Int)==0)=false from rfl,show((6:Int)==1)=false from rfl,show((6:Int)==2)=false from rfl,show((6:Int)==3)=false from rfl,show((6:Int)==4)=false from rfl,show((6:Int)==5)=false from rfl,show((6:Int)==6)=true from rfl,cond_true,cond_false]
 rw[hpass (by unfold actE;rw[if_neg h3,if_neg h4,if_neg h5])]
end
end
section
theorem Q5w {N:Nat}{n:GNet}{i:Nat}{w:Int}{D:Nat}{ws:List Qaa}{y:Int}{O:List (List Qaa)}{Ls:List Qba}{Ss:List Int}{s:Qaa}(hD:D=O.length) (hDl:D=Ls.length) (hDs:D=Ss.length) (hw:¬s.Mass≤w) {ins:List Qaa}(hin:Qbp N n.Table n.Elements O Ls Ss ws y i=some ins) (htot:Qes N ins=some s) :
  Qcl N i w n.Table n.Elements D D D ws y O Ls Ss=some (.inr i):=by
 unfold Qcl
 simp only[Qfi,Option.bind_some,chk,Qb7,show decide (D≤O.length)=true by simp;omega,show decide (D≤Ls.length)=true by simp;omega,show decide (D≤Ss.length)=true by simp;omega,cond_true]
 rw[show O.take D=O from by rw[hD,List.take_length],show Ls.take D=Ls from by rw[hDl,List.take_length],show Ss.take D=Ss from by rw[hDs,List.take_length],hin,Option.bind_some,htot,Option.bind_some,decide_eq_true (show s.Mass>w by omega),cond_true]
abbrev Qvz:=List (List Qaa)×List Qba×List Int×Int
def Q04 {β:Type}(r:Nat⊕Qvz) (f:Nat→β) (g:Qvz→β):β:=match r with |.inl a=>f a |.inr b=>g b
theorem Q37 {α:Type}{o:List α}{i k:Nat}(h:o.length=i) (x y:α):(o++List.replicate (k+1) x).set i y=(o++[y])++List.replicate k x:=by
 rw[List.set_append_right _ _ (by omega),h,Nat.sub_self,List.replicate_succ,List.set_cons_zero,List.append_assoc]
 rfl
structure StV (n:GNet) (st:List Int):Prop where
 len:st.length=n.Elements.length
 bd:∀d∈st,0≤d∧d≤1000000000000000
theorem Zf7 {n:GNet}{st:List Int}(hst:stB n st=true):StV n st:=by
 unfold stB at hst
 simp only[Bool.and_eq_true,decide_eq_true_eq] at hst
 refine⟨hst.1,fun d hd=>?_⟩
 have:=Qc6.1 (List.all_eq_true.1 hst.2 d hd)
 omega
theorem Que {n:GNet}{st:List Int}(hst:StV n st):st.length=n.Elements.length:=hst.len
theorem Zf6 {n:GNet}{st:List Int}(hst:StV n st) {i:Nat}(hi:i<n.Elements.length):∃d,st[i]? = some d∧0≤d∧d≤1000000000000000:=by
 have hl:=hst.len
 obtain⟨a,b⟩:=hst.bd (st[i]'(by omega)) (List.getElem_mem _)
 exact⟨st[i]'(by omega),List.getElem?_eq_getElem _,a,b⟩
section
variable {N : Nat} {n : GNet} (hs : Qrr n) (hN : 1001 ≤ N) (hv : NetV n) {ws : List Qaa} (hf : FedV n ws) {st : List Int} (hst : StV n st)
include hs hN hv hf hst in
theorem Zdx (k:List (List Qaa)×List Qba×List Int×Int→Option (Int⊕(Int×Int×List (List Qaa)×List Qba×List Int))):∀(m i:Nat) (o:List (List Qaa)) (ls:List Qba) (ss:List Int) (y:Int),(n.Elements.drop i).length<m→i≤n.Elements.length→InvT n ws i o ls→ss.length=i→0≤y→y≤1000000*i →
  Qc9 N n st ws k m i (o++List.replicate (n.Elements.length-i) []) (ls++List.replicate (n.Elements.length-i) ⟨0,0,0,0⟩) (ss++st.drop i) y =
  Q04 (Qm4 n.Table ((n.Elements.drop i).zip (st.drop i)) (ws.drop (wcn n i)) o ls ss y) (fun a=>some (.inl (a:Int))) k:=by
 intro m
 induction m with
 |zero=>intro i _ _ _ _ h;cases h
 |succ m ih=>
  intro i o ls ss y h hi hI hss hy0 hy1
  have hsl:=Que hst
  have e0:=hs.e
  rw[Qc9]
  cases hd:n.Elements.drop i with
  |nil=>
   have:=Qdv hd
   have hi2:i=n.Elements.length:=by omega
   subst hi2
   rw[show decide ((n.Elements.length:Int)<(n.Elements.length:Int))=false by simp,cond_false,Nat.sub_self,show st.drop n.Elements.length=[] from List.drop_of_length_le (by omega)]
   simp[Qm4,Q04]
  |cons x l=>
   obtain⟨hg,hd',hlt⟩:=Qc4 hd
   obtain⟨d,hgd,d0,d1⟩:=Zf6 hst hlt
   have hds:st.drop i=d::st.drop (i+1):=by
    have hi:=(List.getElem?_eq_some_iff.1 hgd).1
    rw[List.drop_eq_getElem_cons hi]
    rw[List.getElem?_eq_getElem hi] at hgd
    cases hgd;rfl
   obtain⟨iv,it⟩:=Za3 hv hf hI hg
   have hx:=hs.x x (List.mem_of_getElem? hg)
   have hinl:(insE o (ws.drop (wcn n i)) x).length≤100:=by
    unfold insE
    split
    ·rw[List.length_take];omega
    ·rw[List.length_map];omega
   have hk:n.Elements.length-i=(n.Elements.length-(i+1))+1:=by omega
   have hwid:=Q3l N (hv.alone x (List.mem_of_getElem? hg)) d0 (show d≤9000000000000000000 by omega)
   simp only[dlI hlt,cond_true,Qcn hg,Qcn hgd,Option.bind_some,hwid,Int.toNat_natCast,hsl]
   have htot:Qes N (insE o (ws.drop (wcn n i)) x)=some (totS (insE o (ws.drop (wcn n i)) x)):=by rw[Qwk (by omega) hN,Qst iv (by omega)]
   have hin:=Zcz hs hN hv hf hI hg (List.replicate (n.Elements.length-i) []) (ls++List.replicate (n.Elements.length-i) ⟨0,0,0,0⟩) (ss++st.drop i) y
   have lO:n.Elements.length=(o++List.replicate (n.Elements.length-i) []).length:=by simp[hI.lo];omega
   have lL:n.Elements.length=(ls++List.replicate (n.Elements.length-i) (⟨0,0,0,0⟩:Qba)).length:=by simp[hI.ll];omega
   have lS:n.Elements.length=(ss++st.drop i).length:=by simp[hss,hsl];omega
   rw[hds,List.zip_cons_cons,Qm4]
   by_cases hm:(totS (insE o (ws.drop (wcn n i)) x)).Mass>widI x d
   ·rw[if_pos hm,←hds,Q5w lO lL lS (by omega) hin htot,hI.lo]
    rfl
   ·rw[if_neg hm]
    have hLs:(ls++List.replicate (n.Elements.length-i) (⟨0,0,0,0⟩:Qba))[i]? = some ⟨0,0,0,0⟩:=by
     rw[List.getElem?_append_right (by rw[hI.ll];exact Nat.le_refl _),hI.ll,Nat.sub_self,hk,List.replicate_succ];rfl
    have hSs:(ss++st.drop i)[i]? = some d:=by
     rw[List.getElem?_append_right (by omega),hss,Nat.sub_self,hds];rfl
    have hO:∃r,(o++List.replicate (n.Elements.length-i) ([]:List Qaa))[i]? = some r:=⟨[],by
     rw[List.getElem?_append_right (by rw[hI.lo];exact Nat.le_refl _),hI.lo,Nat.sub_self,hk,List.replicate_succ];rfl⟩
    have hel:=Zdw (N:=N) hN hv (by have:=hs.t;omega) hg it (D:=n.Elements.length) hlt hLs hSs d0 (by omega) hO hy0 (by omega) (by rw[←lL];exact hlt) lO lL lS (w:=widI x d) (by omega) hin htot
    have hK:=Qzf hv hf hI hg
    have hI2:=Qze hv hf hI hg hK
    rw[←hds,hel,Option.bind_some,Sum.elim_inl]
    dsimp only
    have hSet:(ss++st.drop i).set i (d+(actE n.Table x (totS (insE o (ws.drop (wcn n i)) x))).2.1.Scale)=(ss++[d+(actE n.Table x (totS (insE o (ws.drop (wcn n i)) x))).2.1.Scale])++st.drop (i+1):=by
     rw[hds,List.set_append_right _ _ (by omega),hss,Nat.sub_self,List.set_cons_zero,List.append_assoc]
     rfl
    rw[hSet,hk,Q37 hI.lo,Q37 hI.ll,w64S (i:=i) (by omega)]
    have t0:=hK.t0
    have t1:=hK.t1
    have hih:=ih (i+1) _ _ (ss++[d+(actE n.Table x (totS (insE o (ws.drop (wcn n i)) x))).2.1.Scale]) (y+(actE n.Table x (totS (insE o (ws.drop (wcn n i)) x))).2.2) (dlt hd hd' h) hlt hI2 (by simp[hss]) (by omega) (by omega)
    rw[hd'] at hih
    refine hih.trans ?_
    have hw:ws.drop (wcn n (i+1))=if x.Kind=1 then(ws.drop (wcn n i)).drop 1 else ws.drop (wcn n i):=by
     rw[Qll hg]
     split
     ·rw[List.drop_drop]
     ·rfl
    rw[hw]
def Qwl (n:GNet) (st:List Int) (ws:List Qaa):Nat⊕Qvz:=Qm4 n.Table (n.Elements.zip st) ws [] [] [] 0
include hs hN hv hf hst in
theorem Zif:Qfb N n st ws=Q04 (Qwl n st ws) (fun a=>some (.inl (a:Int))) (fun r=>some (.inr (-1,r.2.2.2,r.1,r.2.1,r.2.2.1))):=by
 have e0:=hs.e
 have hsl:=Que hst
 have hl1:=hv.len.1
 have hne:(!st.isEmpty)=true:=by
  cases st with
  |nil=>simp at hsl;omega
  |cons=>rfl
 unfold Qfb Qc5
 simp only[chk,hne,Qb7]
 rw[show(decide (0≤(n.Elements.length:Int))&&decide (24*(n.Elements.length:Int)≤281474976710656)&&decide ((n.Elements.length:Int)≤9223372036854775807))=true by simp;omega,show(decide (0≤(n.Elements.length:Int))&&decide (32*(n.Elements.length:Int)≤281474976710656)&&decide ((n.Elements.length:Int)≤9223372036854775807))=true by simp;omega,show decide ((0+st.length)*8≤140737488355328)=true by simp;omega]
 simp only[cond_true,Option.bind_some,Int.toNat_natCast]
 have:=Zdx hs hN hv hf hst (fun x=>match x with |(y12,y13,y14,y15)=>some (.inr (-1,y15,y12,y13,y14))) N 0 [] [] [] 0 (by simp;omega) (Nat.zero_le _) (Qu5 n ws) rfl (Int.le_refl _) (by simp)
 simp only[List.nil_append,Nat.sub_zero,List.drop_zero,show wcn n 0=0 from rfl] at this
 refine this.trans ?_
 unfold Qwl
 rfl
end
def fedI (n:GNet) (ws:List Qaa):Int:=
 bif decide (ws.length=wcn n n.Elements.length)&&ws.all strB then(if (totS ws).Mass>1000000 then 3 else if (totS ws).Gas>1000000000 then 3 else 0) else 1
theorem Qzr (N:Nat) (s:Qaa):Qec N s=some (bif strB s then 0 else 1):=by
 unfold Qec
 rw[Qpi]
 cases strB s<;>rfl
theorem Zgn {N:Nat}{n:GNet}(hs:Qrr n) (hN:1001≤N) {ws:List Qaa}(hl:ws.length≤1000):Qhg N n ws=some (fedI n ws):=by
 have hc:Qbe N ws=some (ws.any fun x=>!strB x):=by
  unfold Qbe Qbr Qb7
  refine Qgy (F:=Qaz N ws fun _=>some (-1)) (k:=fun _=>some (-1)) (q:=Qc8 N) (fun n y=>rfl) (fun x=>?_) rfl (by omega) (by omega)
  simp only[Qc8,Qhf,Qzr,Option.bind_some]
  cases strB x<;>rfl
 have e0:=hs.e
 have hof:(ofL 1 0 n.Elements).length=wcn n n.Elements.length:=by rw[Qqo];unfold wcn;rw[List.take_length]
 unfold Qhg Qee fedI
 simp only[Qb7,Za0 hs hN 1,Option.bind_some,hc,Qre,hof,Qwk hl hN]
 by_cases h1:ws.length=wcn n n.Elements.length
 ·rw[decide_eq_true h1,show((ws.length:Int) != (wcn n n.Elements.length:Int))=false by rw[bne_eq_false_iff_eq];omega]
  cases ha:ws.all strB with
  |false=>rfl
  |true=>
   have hall:∀s∈ws,StrV s:=fun s h=>Qjk.1 (List.all_eq_true.1 ha s h)
   rw[Qst hall hl]
   simp only[cond_false,Bool.not_true,Bool.true_and,cond_true]
   by_cases h2:(totS ws).Mass>1000000
   ·rw[decide_eq_true h2,if_pos h2];rfl
   ·rw[decide_eq_false h2,if_neg h2]
    by_cases h3:(totS ws).Gas>1000000000
    ·rw[decide_eq_true h3,if_pos h3];rfl
    ·rw[decide_eq_false h3,if_neg h3];rfl
 ·rw[decide_eq_false h1,show((ws.length:Int) != (wcn n n.Elements.length:Int))=true by rw[bne_iff_ne];omega];rfl
theorem Zc5 {n:GNet}{ws:List Qaa}(h:fedI n ws=0):FedV n ws:=by
 unfold fedI at h
 cases hb:decide (ws.length=wcn n n.Elements.length)&&ws.all strB with
 |false=>rw[hb] at h;cases h
 |true=>
  rw[hb,cond_true] at h
  simp only[Bool.and_eq_true,decide_eq_true_eq] at hb
  by_cases h2:(totS ws).Mass>1000000
  ·rw[if_pos h2] at h;cases h
  ·rw[if_neg h2] at h
   by_cases h3:(totS ws).Gas>1000000000
   ·rw[if_pos h3] at h;cases h
   ·exact⟨hb.1,fun s hs=>Qjk.1 (List.all_eq_true.1 hb.2 s hs),by omega,by omega⟩
def Ql3 (n:GNet) (st:List Int) (ws:List Qaa):Int:=bif netB n&&stB n st then fedI n ws else 1
theorem Q7y {N:Nat}{n:GNet}(hs:Qrr n) (hN:1001≤N) {st:List Int}{ws:List Qaa}(hl:ws.length≤1000) (hl2:st.length≤1000):Qi3 N n st ws=some (Ql3 n st ws):=by
 unfold Qi3 Ql3
 rw[Q33 hs hN hl2,Option.bind_some]
 cases netB n&&stB n st with
 |false=>rfl
 |true=>simp only[cond_true,show((0:Int) != 0)=false from rfl,cond_false,Zgn hs hN hl,Option.bind_some]
def Zf1:Qih:=⟨[],[],[]⟩
def doA (n:GNet) (st:List Int) (ws:List Qaa):Qih×Int×Int:=
 if Ql3 n st ws=0 then Q04 (Qwl n st ws) (fun a=>(Zf1,(a:Int),11)) (fun r=>(⟨r.1,r.2.1,r.2.2.1⟩,0,0)) else(Zf1,0,Ql3 n st ws)
theorem Q4i {n:GNet}{st:List Int}{ws:List Qaa}(h:Ql3 n st ws=0):NetV n∧StV n st∧FedV n ws∧netB n=true:=by
 unfold Ql3 at h
 cases hb:netB n&&stB n st with
 |false=>rw[hb] at h;cases h
 |true=>
  rw[hb] at h
  rw[Bool.and_eq_true] at hb
  exact⟨Zcu hb.1,Zf7 hb.2,Zc5 h,hb.1⟩
structure Zg4 (n:GNet) (st:List Int) (ws:List Qaa) (r:Qvz):Prop where
 inv:InvT n ws n.Elements.length r.1 r.2.1
 ss:r.2.2.1=List.zipWith (fun (d:Int) (l:Qba)=>d+l.Scale) st r.2.1
 y0:0≤r.2.2.2
theorem Qyr {n:GNet}(hv:NetV n) {ws:List Qaa}(hf:FedV n ws) {st:List Int}(hst:StV n st):∀(l:List (Qaj×Int)) (i:Nat) (o:List (List Qaa)) (ls:List Qba) (ss:List Int) (y:Int) (r:Qvz),
  l=(n.Elements.drop i).zip (st.drop i)→i≤n.Elements.length→InvT n ws i o ls→ss=List.zipWith (fun (d:Int) (q:Qba)=>d+q.Scale) (st.take i) ls→0≤y→Qm4 n.Table l (ws.drop (wcn n i)) o ls ss y=.inr r→Zg4 n st ws r
 |[],i,o,ls,ss,y,r,hl,hi,hI,hss,hy,h=>by
  have hsl:=Que hst
  have hlen:(n.Elements.drop i).length=0:=by
   have:=congrArg List.length hl
   rw[List.length_zip,List.length_drop,List.length_drop] at this
   simp at this
   rw[List.length_drop];omega
  rw[List.length_drop] at hlen
  have e:i=n.Elements.length:=by omega
  rw[Qm4] at h
  cases h
  subst e
  exact⟨hI,by dsimp only;rw[hss,List.take_of_length_le (by omega)],hy⟩
 |(x,d)::l,i,o,ls,ss,y,r,hl,hi,hI,hss,hy,h=>by
  have hsl:=Que hst
  have hlt:i<n.Elements.length:=by
   apply Decidable.byContradiction
   intro hc
   rw[List.drop_of_length_le (by omega)] at hl
   simp at hl
  have hdE:n.Elements.drop i=n.Elements[i]::n.Elements.drop (i+1):=List.drop_eq_getElem_cons hlt
  have hdS:st.drop i=st[i]'(by omega)::st.drop (i+1):=List.drop_eq_getElem_cons (by omega)
  rw[hdE,hdS,List.zip_cons_cons,List.cons.injEq,Prod.mk.injEq] at hl
  obtain⟨⟨hx,hd⟩,hl⟩:=hl
  have hg:n.Elements[i]? = some x:=by rw[hx];exact List.getElem?_eq_getElem hlt
  have hgd:st[i]? = some d:=by rw[hd];exact List.getElem?_eq_getElem _
  rw[Qm4] at h
  by_cases hm:(totS (insE o (ws.drop (wcn n i)) x)).Mass>widI x d
  ·rw[if_pos hm] at h;cases h
  ·rw[if_neg hm] at h
   have hK:=Qzf hv hf hI hg
   have hI2:=Qze hv hf hI hg hK
   have hw:ws.drop (wcn n (i+1))=if x.Kind=1 then(ws.drop (wcn n i)).drop 1 else ws.drop (wcn n i):=by
    rw[Qll hg]
    split
    ·rw[List.drop_drop]
    ·rfl
   rw[←hw] at h
   refine Qyr hv hf hst l (i+1) _ _ _ _ r hl hlt hI2 ?_ (by have:=hK.t0;omega) h
   rw[Qjj hgd,hss,List.zipWith_append (by rw[List.length_take,hI.ll];omega)]
   rfl
theorem Q7o {n:GNet}(hv:NetV n) {ws:List Qaa}(hf:FedV n ws) {st:List Int}(hst:StV n st) {r:Qvz}(h:Qwl n st ws=.inr r):Zg4 n st ws r:=
 Qyr hv hf hst _ 0 [] [] [] 0 r (by simp) (Nat.zero_le _) (Qu5 n ws) (by simp) (Int.le_refl _) h
theorem Zgs {N:Nat}{n:GNet}(hs:Qrr n) (hN:1001≤N) {st:List Int}{ws:List Qaa}(hl:ws.length≤1000) (hl2:st.length≤1000):Qnk N n st ws=some (doA n st ws):=by
 unfold Qnk doA
 rw[Q7y hs hN hl hl2,Option.bind_some]
 by_cases hr:Ql3 n st ws=0
 ·obtain⟨hv,hst,hf,_⟩:=Q4i hr
  rw[if_pos hr,hr,show((0:Int) != 0)=false from rfl,cond_false,Zif hs hN hv hf hst]
  cases ht:Qwl n st ws with
  |inl a=>
   simp only[Q04,Option.bind_some,Sum.elim_inl,decide_eq_true (show(a:Int)≥0 by omega),cond_true]
   rfl
  |inr r=>
   obtain⟨⟨h1,h2,_⟩,h3,_⟩:=Q7o hv hf hst ht
   have hsl:=Que hst
   have h4:r.2.2.1.length=n.Elements.length:=by rw[h3,List.length_zipWith];omega
   simp only[Q04,Option.bind_some,Sum.elim_inr,show decide ((-1:Int)≥0)=false from rfl,cond_false,chk,Int.toNat_natCast]
   rw[show decide (n.Elements.length≤r.1.length)=true by simp;omega,show decide (n.Elements.length≤r.2.1.length)=true by simp;omega,show decide (st.length≤r.2.2.1.length)=true by simp;omega,List.take_of_length_le (by omega),List.take_of_length_le (by omega),List.take_of_length_le (by omega)]
   rfl
 ·rw[if_neg hr,show(Ql3 n st ws != 0)=true by simpa using hr,cond_true]
  rfl
end
section
def apN (t:List GRow) (L c:Int):GNet:=⟨t,[⟨1,[],(t.length:Int)-1,0,1000000,1,[]⟩,⟨4,[⟨0,0⟩],L,0,1000000,1,[]⟩,⟨3,[⟨1,1⟩],0,c,1000000,1,[]⟩]⟩
theorem Q6g {t:List GRow}(h:t.length≤25) (L c:Int):Qrr (apN t L c):=by
 refine⟨h,Nat.le_of_ble_eq_true rfl,fun x hx=>?_⟩
 simp only[apN,List.mem_cons,List.not_mem_nil,or_false] at hx
 rcases hx with rfl |rfl |rfl<;>exact⟨Nat.le_of_ble_eq_true rfl,Nat.le_of_ble_eq_true rfl⟩
theorem Q3y {t:List GRow}(h:tabB t=true):2≤t.length∧t.length≤20:=by
 unfold tabB at h
 simp only[Bool.and_eq_true] at h
 have:=Qc6.1 h.1.1
 omega
theorem Zd7 {t:List GRow}(ht:tabB t=true) {L c:Int}(hL:0≤L∧L≤(t.length:Int)-1) (hc:0≤c∧c≤1000000000):netB (apN t L c)=true:=by
 have h1:=Q3y ht
 have e1:btw ((t.length:Int)-1) 0 ((t.length:Int)-1)=true:=Qc6.2 ⟨by omega,by omega⟩
 have e2:btw L 0 ((t.length:Int)-1)=true:=Qc6.2 hL
 have e3:btw 0 0 ((t.length:Int)-1)=true:=Qc6.2 ⟨by omega,by omega⟩
 have e4:btw c 0 1000000000=true:=Qc6.2 hc
 have a1:Qgz ⟨1,[],(t.length:Int)-1,0,1000000,1,[]⟩=true:=by unfold Qgz;rfl
 have a2:Qgz ⟨4,[⟨0,0⟩],L,0,1000000,1,[]⟩=true:=by unfold Qgz;rfl
 have a3:Qgz ⟨3,[⟨1,1⟩],0,c,1000000,1,[]⟩=true:=by
  unfold Qgz
  rw[if_pos (show(⟨3,[⟨1,1⟩],0,c,1000000,1,[]⟩:Qaj).Kind=3 from rfl),e4]
  rfl
 unfold netB apN
 dsimp only
 rw[ht,Bool.true_and,List.all_cons,List.all_cons,List.all_cons,List.all_nil,a1,a2,a3]
 rw[show btw (([⟨1,[],(t.length:Int)-1,0,1000000,1,[]⟩,⟨4,[⟨0,0⟩],L,0,1000000,1,[]⟩,⟨3,[⟨1,1⟩],0,c,1000000,1,[]⟩]:List Qaj).length:Int) 1 16=true from rfl]
 simp only[Qtm,Qkq,Bool.and_true,Bool.true_and,e1,e2,e3]
 have p1:Qqe [⟨1,[],(t.length:Int)-1,0,1000000,1,[]⟩,⟨4,[⟨0,0⟩],L,0,1000000,1,[]⟩,⟨3,[⟨1,1⟩],0,c,1000000,1,[]⟩] 1 L [] ⟨0,0⟩=true:=by
  show(true&&(true&&decide (L≤(t.length:Int)-1))&&true)=true
  rw[decide_eq_true hL.2]
  rfl
 have p2:Qqe [⟨1,[],(t.length:Int)-1,0,1000000,1,[]⟩,⟨4,[⟨0,0⟩],L,0,1000000,1,[]⟩,⟨3,[⟨1,1⟩],0,c,1000000,1,[]⟩] 2 0 [(0,0)] ⟨1,1⟩=true:=by
  show(true&&(true&&decide (0≤L))&&true)=true
  rw[decide_eq_true hL.1]
  rfl
 show(Qqe _ 1 L [] ⟨0,0⟩&&Qqe _ 2 0 [(0,0)] ⟨1,1⟩)=true
 rw[p1,p2]
 rfl
theorem Q6h {t:List GRow}(ht:tabB t=true) {L c:Int}(hL:0≤L∧L≤(t.length:Int)-1) (hc:0≤c∧c≤1000000000) {s:Qaa}(hs:strB s=true):Ql3 (apN t L c) [0,0,0] [s]=0:=by
 have hv:=Qjk.1 hs
 obtain⟨m0,m1,h0,h1,q0,q1,y0,y1⟩:=hv
 unfold Ql3
 rw[Zd7 ht hL hc]
 show(bif true&&true then fedI (apN t L c) [s] else 1)=0
 show fedI (apN t L c) [s]=0
 unfold fedI
 rw[show decide (([s]:List Qaa).length=wcn (apN t L c) (apN t L c).Elements.length)=true from rfl,List.all_cons,hs,List.all_nil,Qgi]
 show(if s.Mass>1000000 then 3 else if s.Gas>1000000000 then 3 else 0)=(0:Int)
 rw[if_neg (by omega),if_neg (by omega)]
def apF (t:List GRow) (L:Int) (s:Qaa):Qf1:=flG (Qf7 t L) s
theorem Qzz {t:List GRow}(ht:tabB t=true) {L:Int}(hL:0≤L∧L≤(t.length:Int)-1) {s:Qaa}(hs:StrV s):Zg6 s (apF t L s):=
 Qth (Qyy ht (Qc6.2 hL)).2 hs
def apC (c:Int) (s:Qaa):Int:=if s.Heat<c then s.Heat else c
theorem Q91 {t:List GRow}(ht:tabB t=true) {L c:Int}(hL:0≤L∧L≤(t.length:Int)-1) {s:Qaa}(hs:StrV s):Qwl (apN t L c) [0,0,0] [s] =
  .inr ([[s],[(apF t L s).Steam,(apF t L s).Water],[⟨(apF t L s).Water.Mass,(apF t L s).Water.Heat-apC c (apF t L s).Water,(apF t L s).Water.Silica,(apF t L s).Water.Gas⟩]],
   [⟨0,0,0,0⟩,⟨0,0,0,(apF t L s).Scale⟩,⟨apC c (apF t L s).Water,0,0,0⟩],[0,(apF t L s).Scale,0],(apF t L s).Steam.Mass):=by
 have hk:=Qzz ht hL hs
 have hw:=hk.wa.m1
 have hsm:=hs.m1
 unfold Qwl
 show Qm4 t [(⟨1,[],(t.length:Int)-1,0,1000000,1,[]⟩,0),(⟨4,[⟨0,0⟩],L,0,1000000,1,[]⟩,0),(⟨3,[⟨1,1⟩],0,c,1000000,1,[]⟩,0)] [s] [] [] [] 0=_
 have w1:∀(x:Qaj),x.Wide=1000000→x.Narrow=1→widI x 0=1000000:=fun x h1 h2=>by unfold widI;rw[h1,h2];rfl
 rw[Qm4,w1 _ rfl rfl,show insE [] [s] ⟨1,[],(t.length:Int)-1,0,1000000,1,[]⟩=[s] from rfl,Qgi,if_neg (by omega),show actE t ⟨1,[],(t.length:Int)-1,0,1000000,1,[]⟩ s=([s],⟨0,0,0,0⟩,0) from rfl]
 rw[Qm4,w1 _ rfl rfl]
 show(if (totS [s]).Mass>1000000 then _ else _)=_
 rw[Qgi,if_neg (by omega)]
 show Qm4 t [(⟨3,[⟨1,1⟩],0,c,1000000,1,[]⟩,0)] [] ([[s]]++[(actE t ⟨4,[⟨0,0⟩],L,0,1000000,1,[]⟩ (totS [s])).1]) ([⟨0,0,0,0⟩]++[(actE t ⟨4,[⟨0,0⟩],L,0,1000000,1,[]⟩ (totS [s])).2.1]) ([0]++[0+(actE t ⟨4,[⟨0,0⟩],L,0,1000000,1,[]⟩ (totS [s])).2.1.Scale]) (0+0+(actE t ⟨4,[⟨0,0⟩],L,0,1000000,1,[]⟩ (totS [s])).2.2)=_
 rw[Qgi,show actE t ⟨4,[⟨0,0⟩],L,0,1000000,1,[]⟩ s=([(apF t L s).Steam,(apF t L s).Water],⟨0,0,0,(apF t L s).Scale⟩,(apF t L s).Steam.Mass) from rfl]
 rw[Qm4,w1 _ rfl rfl]
 show(if (totS [(apF t L s).Water]).Mass>1000000 then _ else _)=_
 rw[Qgi,if_neg (by omega),Qm4]
 show(Sum.inr ([[s],[(apF t L s).Steam,(apF t L s).Water],(actE t ⟨3,[⟨1,1⟩],0,c,1000000,1,[]⟩ (totS [(apF t L s).Water])).1],[⟨0,0,0,0⟩,⟨0,0,0,(apF t L s).Scale⟩,(actE t ⟨3,[⟨1,1⟩],0,c,1000000,1,[]⟩ (totS [(apF t L s).Water])).2.1],[0,0+(apF t L s).Scale,0+(actE t ⟨3,[⟨1,1⟩],0,c,1000000,1,[]⟩ (totS [(apF t L s).Water])).2.1.Scale],0+0+(apF t L s).Steam.Mass+(actE t ⟨3,[⟨1,1⟩],0,c,1000000,1,[]⟩ (totS [(apF t L s).Water])).2.2):Nat⊕Qvz)=_
 rw[Qgi,Int.zero_add]
 show(Sum.inr ([[s],[(apF t L s).Steam,(apF t L s).Water],[⟨(apF t L s).Water.Mass,(apF t L s).Water.Heat-apC c (apF t L s).Water,(apF t L s).Water.Silica,(apF t L s).Water.Gas⟩]],[⟨0,0,0,0⟩,⟨0,0,0,(apF t L s).Scale⟩,⟨apC c (apF t L s).Water,0,0,0⟩],[0,(apF t L s).Scale,0+0],0+0+(apF t L s).Steam.Mass+0):Nat⊕Qvz)=_
 rw[Int.zero_add,Int.add_zero,Int.zero_add]
theorem Zg2 {c:Int}(hc:0≤c) {s:Qaa}(hs:StrV s):0≤apC c s∧apC c s≤s.Heat:=by
 have:=hs.h0
 unfold apC
 split<;>omega
end
section
def Qcy (N:Nat) (p5:List Qbg) (p6:List Int) (x16:((List Int)×Int×Int)) (k24:Int×Int→Option Bool):Nat→Int→Int→Int→Option Bool
  |0,_,_,_=>none
  |n71+1,y65,y66,y67=>
    bif (decide (y67<(p5.length:Int))) then
     (getI p6 y67).bind fun x73=>
     (getI x16.1 y67).bind fun x77=>
     bif (decide (x77>0)) then
      (getI p5 y67).bind fun x82=>
      Qcy N p5 p6 x16 k24 n71 (w64 (y65+x73)) (w64 (y66+x82.Loss)) (w64 (y67+1))
     else
      Qcy N p5 p6 x16 k24 n71 (w64 (y65+x73)) y66 (w64 (y67+1))
    else
     k24 (y65,y66)
def Qhq (N:Nat) (p0:List GRow) (p1:Qaa) (p2 p3 p4:Int) (p5:List Qbg) (p6:List Int):Option Bool:=
  Qb7 (fun _=>
    (Qie N p0).bind fun x3=>
    chk ((p0.length:Int) != 0)<|
    (Qj2 N x3 ((w64 p2).tmod (p0.length:Int)) ((w64 p3).tmod 1000000001)).bind fun x6=>
    (Qiq N p1).bind fun x8=>
    (Qnk N x6 ([0,0,0]) ([x8])).bind fun x10=>
    Qb7 (fun _=>
      (Qi7 N p5).bind fun x13=>
      chk (decide ((([]:List Int).length+p6.length)*8≤140737488355328))<|
      (Qhn N x13 (([]:List Int)++p6)).bind fun x16=>
      bif (x16.2.2 != 0) then
       bif (x16.2.2==11) then
        (Qgb 2000 ).bind fun x20=>
        some x20
       else
        some false
      else
       bif ((x16.1.length:Int) != (p5.length:Int)) then
        some false
       else
        Qb7 (fun ⟨y22,y23⟩=>
          (getI x10.1.Out 2).bind fun x25=>
          (getI x25 0).bind fun x29=>
          (getI x16.1 0).bind fun x33=>
          (Qj1 N (⟨x29,(w64 p4).tmod 4001⟩:Qo9) x33).bind fun x38=>
          Qb7 (fun _=>
            bif (decide (x38.2.1<x33)) then
             (some (if (w64 (x29.Heat-(w64 (((w64 p4).tmod 4001)*x29.Mass))))>0 then w64 (x29.Heat-(w64 (((w64 p4).tmod 4001)*x29.Mass))) else 0)).bind fun x41=>
             bif (x38.2.1==x41) then
              (Qgb 2000 ).bind fun x45=>
              some x45
             else
              some false
            else
             (getI x10.1.Out 1).bind fun x46=>
             (getI x46 0).bind fun x50=>
             (getI x10.1.Lost 2).bind fun x54=>
             (some (w64 ((w64 ((w64 ((w64 (x50.Heat+x54.Heat))+y22))+y23))+x38.1.Heat))).bind fun x58=>
             bif (p1.Heat==x58) then
              (Qgb 2000 ).bind fun x62=>
              some x62
             else
              some false) fun k39:Unit→Option Bool=>
          bif (x38.2.2 != 0) then
           some false
          else
           bif (x33 != (w64 (y22+y23))) then
            some false
           else
            k39 ()) fun k24:Int×Int→Option Bool=>
        Qcy N p5 p6 x16 k24 N 0 0 0) fun k11:Unit→Option Bool=>
    bif (x10.2.2 != 0) then
     some false
    else
     bif ((x10.1.Out.length:Int) != 3) then
      some false
     else
      (getI x10.1.Out 1).bind fun x88=>
      bif ((x88.length:Int) != 2) then
       some false
      else
       (getI x10.1.Out 2).bind fun x93=>
       bif ((x93.length:Int) != 1) then
        some false
       else
        bif ((x10.1.Lost.length:Int) != 3) then
         some false
        else
         k11 ()) fun k1:Unit→Option Bool=>
  (Qib N p0).bind fun x100=>
  bif (!x100) then
   (Qgb 2000 ).bind fun x103=>
   some x103
  else
   (Qe7 N p1).bind fun x105=>
   bif (!x105) then
    (Qgb 2000 ).bind fun x108=>
    some x108
   else
    bif (decide ((p5.length:Int)>35)) then
     (Qgb 2000 ).bind fun x111=>
     some x111
    else
     (Qia N p5).bind fun x113=>
     bif (!x113) then
      (Qgb 2000 ).bind fun x116=>
      some x116
     else
      (Qi1 N p5 p6).bind fun x118=>
      bif (!x118) then
       (Qgb 2000 ).bind fun x121=>
       some x121
      else
       k1 ()
def Qkx (p5:List Qbg):AV:=.dat 4 (p5.map Qat)
def Qjy (p1:Qaa):Slot:=.own 4 [[(I p1.Mass),(I p1.Heat),(I p1.Silica),(I p1.Gas)]]
def Zfk:AV:=.dat 1 (([0,0,0]:List Int).map Qab)
def Zfl (p1:Qaa):AV:=.agg [(I p1.Mass),(I p1.Heat),(I p1.Silica),(I p1.Gas)]
def Zal (x8:Qaa):AV:=.agg [(I x8.Mass),(I x8.Heat),(I x8.Silica),(I x8.Gas)]
def Zfj (x8:Qaa):AV:=.dat 4 (([x8]:List Qaa).map Qac)
def Ql7 (x10:(Qih×Int×Int)):AV:=.dat 1 (x10.1.Out.map Qag)
def Qiy (x10:(Qih×Int×Int)):Slot:=.own 3 [[(Ql7 x10),(.dat 4 (x10.1.Lost.map Qau)),(.dat 1 (x10.1.State.map Qab))]]
def Q22:AV:=.acc 2 3 1 ((([]:List Int):List Int).map Qab)
def Qix (x16:((List Int)×Int×Int)):AV:=.dat 1 (x16.1.map Qab)
def Zb4 (x29:Qaa):AV:=.agg [(I x29.Mass),(I x29.Heat),(I x29.Silica),(I x29.Gas)]
def Q21 (x38:(Qaa×Int×Int)):Slot:=.own 4 [[(I x38.1.Mass),(I x38.1.Heat),(I x38.1.Silica),(I x38.1.Gas)]]
def Qwc (x10:(Qih×Int×Int)) (x25:List Qaa) (x29:Qaa) (p4 x41:Int):List (Nat×Rec):=[(3,rp [((.tmp 188),(Ql7 x10)),ci 2] (.dptr (Qag x25) 0)),(5,rp [((.tmp 190),(.dat 4 (x25.map Qac))),ci 0] (.dptr (Qac x29) 0)),(11,rp [((.tmp 196),(Ql7 x10)),ci 2] (.dptr (Qag x25) 0)),(13,rp [((.tmp 198),(.dat 4 (x25.map Qac))),ci 0] (.dptr (Qac x29) 0)),(18,rp [ci 0,((.tmp 203),(I (w64 (x29.Heat-(w64 (((w64 p4).tmod 4001)*x29.Mass))))))] (I x41))]
def Qwb (x10:(Qih×Int×Int)) (x46:List Qaa) (x50:Qaa) (x54:Qba) (y22 y23:Int) (x38:(Qaa×Int×Int)) (x58:Int):List (Nat×Rec):=[(4,rp [((.tmp 212),(Ql7 x10)),ci 1] (.dptr (Qag x46) 0)),(6,rp [((.tmp 214),(.dat 4 (x46.map Qac))),ci 0] (.dptr (Qac x50) 0)),(11,rp [((.tmp 219),(.dat 4 (x10.1.Lost.map Qau))),ci 2] (.dptr (Qau x54) 0)),(21,rp [((.tmp 227),(I (w64 ((w64 ((w64 (x50.Heat+x54.Heat))+y22))+y23)))),((.tmp 229),(I x38.1.Heat))] (I x58))]
def Qwa (x10:(Qih×Int×Int)):List (Nat×Rec):=[(2,rp [((.tmp 76),(B ((x10.2.2 != 0))))] (B false)),(5,rp [((.tmp 77),(B false)),((.tmp 79),(Ql7 x10))] (I ((x10.1.Out.length:Int))))]
def Qv9 x10 (x88:List Qaa):=hcat (Qwa x10) [(8,rp [((.tmp 82),(B (((x10.1.Out.length:Int) != 3))))] (B false)),(11,rp [((.tmp 83),(B false)),((.tmp 85),(Ql7 x10)),ci 1] (.dptr (Qag x88) 0)),(13,rp [((.tmp 83),(B false)),((.tmp 87),(.dat 4 (x88.map Qac)))] (I ((x88.length:Int))))]
def Qv8 x10 x88 (x93:List Qaa):=hcat (Qv9 x10 x88) [(16,rp [((.tmp 90),(B (((x88.length:Int) != 2))))] (B false)),(19,rp [((.tmp 91),(B false)),((.tmp 93),(Ql7 x10)),ci 2] (.dptr (Qag x93) 0)),(21,rp [((.tmp 91),(B false)),((.tmp 95),(.dat 4 (x93.map Qac)))] (I ((x93.length:Int))))]
def Qv7 (p0:List GRow) (x100:Bool):List (Nat×Rec):=[(1,rp [fu 6,((.tmp 29),(.dat 5 (p0.map Qap)))] (B x100))]
def Qv6 p0 x100 (p1:Qaa) (x105:Bool):=hcat (Qv7 p0 x100) [(3,rp [((.tmp 31),(B ((!x100))))] (B false)),(5,rp [((.tmp 32),(B false)),fu 7,((.tmp 33),(Zfl p1))] (B x105))]
def Qv5 p0 x100 p1 x105 (p5:List Qbg):=hcat (Qv6 p0 x100 p1 x105) [(8,rp [((.tmp 36),(B ((!x105))))] (B false)),(10,rp [((.tmp 37),(B false)),((.tmp 38),(Qkx p5))] (I ((p5.length:Int))))]
def Qv4 p0 x100 p1 x105 p5 (x113:Bool):=hcat (Qv5 p0 x100 p1 x105 p5) [(13,rp [((.tmp 41),(B ((decide ((p5.length:Int)>35)))))] (B false)),(15,rp [((.tmp 42),(B false)),fu 8,((.tmp 43),(Qkx p5))] (B x113))]
theorem Qoa (N:Nat) (p0:List GRow) (p1:Qaa) (p2 p3 p4:Int) (p5:List Qbg) (p6:List Int) (r:Bool) (h:Qhq N p0 p1 p2 p3 p4 p5 p6=some r):Spec prog 3 [(.dat 5 (p0.map Qap)),(.agg (Qac p1)),(K .u8 p2),(K .u32 p3),(K .u16 p4),(.dat 4 (p5.map Qat)),(.dat 1 (p6.map Qab))] [] (B r) []:=by
  refine sA func3 0 fun _ _ _ hq hd0=>?_
  unfold Qhq at h
  refine wxz ?_
  obtain⟨k1,hk_k1,h⟩:=jko h
  refine wjn (τ:=Unit) (fun t=>k1 t=some r) (fun _=>⟨mk 235 [(0,(.dat 5 (p0.map Qap))),(2,(K .u8 p2)),(3,(K .u32 p3)),(4,(K .u16 p4)),(5,(Qkx p5)),(6,(.dat 1 (p6.map Qab))),(8,.ref 0 4 0 0)],[(Qjy p1)]⟩) (fun t h=>?_) ?_
  ·subst hk_k1
   obtain⟨x3,hf2,h⟩:=bno h
   obtain⟨hz4,h⟩:=cko h
   obtain⟨x6,hf5,h⟩:=bno h
   refine wxd tbk [(1,rp _ _),(3,rp [(.tmp 56,(K .u8 p2))] (I (w64 p2))),(5,rp _ _),(6,rp [(.tmp 57,I (w64 p2)),(.tmp 59,(I ((p0.length:Int))))] (I ((w64 p2).tmod (p0.length:Int)))),(8,rp [(.tmp 61,(K .u32 p3))] (I (w64 p3))),(9,rp [(.tmp 62,I (w64 p3)),ci 1000000001] (I ((w64 p3).tmod 1000000001))),(10,rp _ _)] ⟨apw Zdu (Qqr N p0 _ hf2),acv rfl (by rw[underlying5];rfl) underlying3,alq 5 Qap p0 underlying23,Qn0 rfl (Qoo hz4),acv rfl (by rw[underlying26];rfl) underlying3,Qn0 rfl (by decide),apw Zdv (Qsu N x3 ((w64 p2).tmod (p0.length:Int)) ((w64 p3).tmod 1000000001) _ hf5),tv⟩ ?_
   obtain⟨x8,hf7,h⟩:=bno h
   obtain⟨x10,hf9,h⟩:=bno h
   refine wxd tbk [(1,rp [ci 0,ci 0,ci 0] Zfk),(3,rp _ _),(4,rp [(.tmp 69,(Zal x8))] (Zfj x8)),(5,rp _ _)] ⟨Qcg (vs:=[I 0,I 0,I 0]) rfl underlying29 ti3 tz3 rfl (by decide) rfl (by decide) (by rfl) (by rfl) (by rfl) rfl,apw Zds (Qpg N p1 _ hf7),Qcg (vs:=[(Zal x8)]) rfl underlying51 ti49 tz49 rfl (by decide) rfl (by decide) (by rfl) (by rfl) (by rfl) rfl,apw Zdt (Qwx N x6 ([0,0,0]) ([x8]) _ hf9),tv⟩ ?_
   obtain⟨k11,hk_k11,h⟩:=jko h
   refine wjn (τ:=Unit) (fun t=>k11 t=some r) (fun _=>⟨mk 235 [(4,(K .u16 p4)),(5,(Qkx p5)),(6,(.dat 1 (p6.map Qab))),(8,.ref 0 4 0 0),(16,.ref 1 3 0 0)],[(Qjy p1),(Qiy x10)]⟩) (fun t h=>?_) ?_
   ·subst hk_k11
    obtain⟨x13,hf12,h⟩:=bno h
    obtain⟨ha14,h⟩:=cko h
    obtain⟨x16,hf15,h⟩:=bno h
    refine wx tbk [(1,rp _ _),(2,⟨[],[(2,.unused)],Q22,[(2,.tok)],false⟩),(4,⟨[(.tmp 108,Q22),(.tmp 109,(.dat 1 (p6.map Qab)))],[(2,.tok),(3,.unused)],(.acc 3 3 1 ((([]:List Int)++p6:List Int).map Qab)),[(2,.dead),(3,.tok)],false⟩),(5,rp [fu 15,(.tmp 107,(.dat 4 (x13.map Qat))),(.tmp 110,(.acc 3 3 1 ((([]:List Int)++p6:List Int).map Qab)))] (.tup [(Qix x16),I x16.2.1,I x16.2.2]))] ⟨apw Zdr (Qro N p5 _ hf12),Qn3 rfl underlying29 ti3 tz3,Qkj rfl underlying29 te3 (Base.acc _ _) rfl rfl (Qy6 Qab Q4q _) (Qot Qab ha14) (Qos Qab ha14 (by decide)) (Qor Qab) rfl rfl,awk (rd':=(.func 15,(.fn (.func 15) [] []))::[(.tmp 107,(.dat 4 (x13.map Qat))),(.tmp 110,(.dat 1 ((([]:List Int)++p6:List Int).map Qab)))]) ⟨rfl,lrf,rfl,lrf,rfl,Less.acc,tv⟩ (apv Q5u (Ql1 N x13 (([]:List Int)++p6) _ hf15) (nlc (nld Qbo _) (nlc (nld Qaf _) nl0)) (NLt.tup _ (nlc (nld Qaf _) (nlcc nl0)))),tv⟩<|wsq<|wxz ?_
    refine bfe h (fun hc17 h=>?_) fun hc17 h=>?_
    ·refine wft hc17 ?_
     refine bfe h (fun hb18 h=>?_) fun hb18 h=>?_
     ·obtain⟨x20,hf19,h⟩:=bno h
      exact wx tbk [(2,rp [(.tmp 118,(B ((x16.2.2==11))))] (B true)),(3,rp [(.tmp 119,B true),fu 10] (B x20))] ⟨asb hb18 (amv rfl),ag_ (apv Qlh (Qfq 2000  _ hf19) nl0 nll),tv⟩<|Qad<|Qae<|frb h
     ·exact wx tbk [(2,rp [(.tmp 118,(B ((x16.2.2==11))))] (B false))] ⟨asb hb18 (amv rfl),tv⟩<|Qad<|Qae<|frb h
    ·refine wfn hc17<|Qam<|thn<|wsq ?_
     refine wx tbk [(1,rp _ _),(3,rp _ _)] ⟨alq 1 Qab x16.1 underlying29,alq 4 Qat p5 underlying28,tv⟩ ?_
     refine bfe h (fun hc21 h=>?_) fun hc21 h=>?_
     ·exact wft hc21<|wxz<|Qad<|Qae<|frb h
     ·refine wfn hc21<|Qam<|thn<|wxz ?_
      obtain⟨k24,hk_k24,h⟩:=jko h
      refine wjn (τ:=Int×Int) (fun t=>k24 t=some r) (fun ⟨y22,y23⟩=>⟨mk 235 [(4,(K .u16 p4)),(8,.ref 0 4 0 0),(16,.ref 1 3 0 0),(19,(Qix x16)),(22,I y22),(23,I y23)],[(Qjy p1),(Qiy x10)]⟩) (fun t h=>?_) ?_
      ·subst hk_k24
       obtain⟨y22,y23⟩:=t
       refine wx tbk [(1,rp [(.tmp 151,(K .u16 p4))] (I (w64 p4))),(2,rp [(.tmp 152,I (w64 p4)),ci 4001] (I ((w64 p4).tmod 4001)))] ⟨acv rfl (by rw[underlying27];rfl) underlying3,Qn0 rfl (by decide),tv⟩ ?_
       obtain⟨x25,hg26,h⟩:=bno h
       obtain⟨hi27,hj28⟩:=gsm hg26
       obtain⟨x29,hg30,h⟩:=bno h
       obtain⟨hi31,hj32⟩:=gsm hg30
       obtain⟨x33,hg34,h⟩:=bno h
       obtain⟨hi35,hj36⟩:=gsm hg34
       obtain⟨x38,hf37,h⟩:=bno h
       refine wxd tbk [(2,rp _ _),(4,rp _ _),(7,rp _ _),(9,rp _ _),(11,rp _ _)] ⟨aiq underlying42 ti51 Qag hi27 hj28,aiq underlying51 ti49 Qac hi31 hj32,Qa6 (vs:=[(Zb4 x29),(I ((w64 p4).tmod 4001))]) rfl ts62 tz62 rfl (by rfl) rfl,aiq underlying29 ti3 Qab hi35 hj36,apw Zdq (Qss N (⟨x29,(w64 p4).tmod 4001⟩:Qo9) x33 _ hf37),tv⟩ ?_
       obtain⟨k39,hk_k39,h⟩:=jko h
       refine wjn (τ:=Unit) (fun t=>k39 t=some r) (fun _=>⟨mk 235 [(8,.ref 0 4 0 0),(16,.ref 1 3 0 0),(19,(Qix x16)),(22,I y22),(23,I y23),(25,(I ((w64 p4).tmod 4001))),(26,.ref 2 4 0 0),(27,I x38.2.1)],[(Qjy p1),(Qiy x10),(Q21 x38)]⟩) (fun t h=>?_) ?_
       ·subst hk_k39
        refine wsq<|wx tbk [(2,rp _ _)] ⟨aiq underlying29 ti3 Qab hi35 hj36,tv⟩ ?_
        refine bfe h (fun hc40 h=>?_) fun hc40 h=>?_
        ·refine wft hc40 ?_
         obtain⟨x41,hl42,h⟩:=bno h
         refine hpre (A:=(Qwc x10 x25 x29 p4 x41)) ⟨aiq underlying42 ti51 Qag hi27 hj28,aiq underlying51 ti49 Qac hi31 hj32,aiq underlying42 ti51 Qag hi27 hj28,aiq underlying51 ti49 Qac hi31 hj32,Qgu hl42 (Qki rfl),tv⟩ fun q1_=>?_
         refine bfe h (fun hb43 h=>?_) fun hb43 h=>?_
         ·obtain⟨x45,hf44,h⟩:=bno h
          exact wxd tbk (hcat (Qwc x10 x25 x29 p4 x41) [(20,rp [(.tmp 205,(B ((x38.2.1==x41))))] (B true)),(21,rp [(.tmp 206,B true),fu 10] (B x45))]) (hap q1_ ⟨asb hb43 (amv rfl),ag_ (apv Qlh (Qfq 2000  _ hf44) nl0 nll),tv⟩)<|Qad<|Qae<|frb h
         ·exact wxd tbk (hcat (Qwc x10 x25 x29 p4 x41) [(20,rp [(.tmp 205,(B ((x38.2.1==x41))))] (B false))]) (hap q1_ ⟨asb hb43 (amv rfl),tv⟩)<|Qad<|Qae<|frb h
        ·refine wfn hc40<|Qam<|thn ?_
         obtain⟨x46,hg47,h⟩:=bno h
         obtain⟨hi48,hj49⟩:=gsm hg47
         obtain⟨x50,hg51,h⟩:=bno h
         obtain⟨hi52,hj53⟩:=gsm hg51
         obtain⟨x54,hg55,h⟩:=bno h
         obtain⟨hi56,hj57⟩:=gsm hg55
         obtain⟨x58,hl59,h⟩:=bno h
         refine hpre (A:=(Qwb x10 x46 x50 x54 y22 y23 x38 x58)) ⟨aiq underlying42 ti51 Qag hi48 hj49,aiq underlying51 ti49 Qac hi52 hj53,aiq underlying43 ti64 Qau hi56 hj57,Qgu hl59 (abn rfl rfl),tv⟩ fun q2_=>?_
         refine bfe h (fun hb60 h=>?_) fun hb60 h=>?_
         ·obtain⟨x62,hf61,h⟩:=bno h
          exact wxd tbk (hcat (Qwb x10 x46 x50 x54 y22 y23 x38 x58) [(23,rp [(.tmp 231,(B ((p1.Heat==x58))))] (B true)),(24,rp [(.tmp 232,B true),fu 10] (B x62))]) (hap q2_ ⟨asb hb60 (amv rfl),ag_ (apv Qlh (Qfq 2000  _ hf61) nl0 nll),tv⟩)<|Qad<|frb h
         ·exact wxd tbk (hcat (Qwb x10 x46 x50 x54 y22 y23 x38 x58) [(23,rp [(.tmp 231,(B ((p1.Heat==x58))))] (B false))]) (hap q2_ ⟨asb hb60 (amv rfl),tv⟩)<|Qad<|frb h
       ·skip
        refine bfe h (fun hb63 h=>?_) fun hb63 h=>?_
        ·exact wx tbk [(2,rp [(.tmp 171,(B ((x38.2.2 != 0))))] (B true))] ⟨asb hb63 (amv rfl),tv⟩<|wtr<|wxz<|Qad<|Qae<|frb h
        ·refine wx tbk [(2,rp [(.tmp 171,(B ((x38.2.2 != 0))))] (B false)),(4,rp [(.tmp 172,B false),(.tmp 173,(Qix x16)),ci 0] (.dptr (Qab x33) 0))] ⟨asb hb63 (amv rfl),ag_ (aiq underlying29 ti3 Qab hi35 hj36),tv⟩ ?_
         refine bfe h (fun hc64 h=>?_) fun hc64 h=>?_
         ·exact wft hc64<|wxz<|Qad<|Qae<|frb h
         ·exact wfn hc64<|Qam<|thn<|⟨(),h,(mto (n:=235) [(8,.ref 0 4 0 0),(16,.ref 1 3 0 0),(19,(Qix x16)),(22,I y22),(23,I y23),(25,(I ((w64 p4).tmod 4001))),(26,.ref 2 4 0 0),(27,I x38.2.1)] [0,1,2] [(Qjy p1),(Qiy x10),(Q21 x38)] hq (prr (prr (pc (rnd Qaf) (pw (pw (pw (prr (pw pn)))))))) (qb (lcc (lcc ln)) (qb (lc (rnd Qar) (lc (rnd Qa3) (lc (rnd Qaf) ln))) (qb (lcc (lcc ln)) qn))))⟩
      ·skip
       refine wxz<|Qaq ?_
       refine wmr (mto (n:=235) (l':=[(4,(K .u16 p4)),(5,(Qkx p5)),(6,(.dat 1 (p6.map Qab))),(8,.ref 0 4 0 0),(16,.ref 1 3 0 0),(19,(Qix x16)),(22,I 0),(23,I 0),(24,I 0)]) (own':=[(Qjy p1),(Qiy x10)]) [(4,(K .u16 p4)),(5,(Qkx p5)),(6,(.dat 1 (p6.map Qab))),(8,.ref 0 4 0 0),(16,.ref 1 3 0 0),(19,(Qix x16)),(22,I 0),(23,I 0),(24,I 0)] [0,1] [(Qjy p1),(Qiy x10)] hq (pw (pc (rnd Qbo) (pc (rnd Qaf) (prr (prr (pc (rnd Qaf) (pw (pw (pw pn))))))))) (qb (lcc (lcc ln)) (qb (lc (rnd Qar) (lc (rnd Qa3) (lc (rnd Qaf) ln))) qn))) ?_
       refine Qcz (τ:=Int×Int×Int) (fun n t=>Qcy N p5 p6 x16 k24 n t.1 t.2.1 t.2.2=some r) (fun ⟨y65,y66,y67⟩=>⟨mk 235 [(4,(K .u16 p4)),(5,(Qkx p5)),(6,(.dat 1 (p6.map Qab))),(8,.ref 0 4 0 0),(16,.ref 1 3 0 0),(19,(Qix x16)),(22,I y65),(23,I y66),(24,I y67)],[(Qjy p1),(Qiy x10)]⟩) (fun t h=>by rw[Qcy] at h;cases h) (fun n71 ih t h=>?_) N (0,0,0) h
       obtain⟨y65,y66,y67⟩:=t
       rw[Qcy] at h
       skip
       refine wsq<|wx tbk [(2,rp _ _)] ⟨alq 4 Qat p5 underlying28,tv⟩ ?_
       refine bfe h (fun hc72 h=>?_) fun hc72 h=>?_
       ·refine wft hc72<|Qam<|thn<|wsq<|Qaq ?_
        obtain⟨x73,hg74,h⟩:=bno h
        obtain⟨hi75,hj76⟩:=gsm hg74
        refine wx tbk [(3,rp _ _)] ⟨aiq underlying29 ti3 Qab hi75 hj76,tv⟩ ?_
        obtain⟨x77,hg78,h⟩:=bno h
        obtain⟨hi79,hj80⟩:=gsm hg78
        refine wx tbk [(2,rp _ _)] ⟨aiq underlying29 ti3 Qab hi79 hj80,tv⟩ ?_
        refine bfe h (fun hc81 h=>?_) fun hc81 h=>?_
        ·refine wft hc81 ?_
         obtain⟨x82,hg83,h⟩:=bno h
         obtain⟨hi84,hj85⟩:=gsm hg83
         exact wx1 tbk [(3,rp _ _)] ⟨aiq underlying28 ti58 Qat hi84 hj85,tv⟩<|bln<|thn<|wxz1<|thn<|arm (mto (n:=235) [(4,(K .u16 p4)),(5,(Qkx p5)),(6,(.dat 1 (p6.map Qab))),(8,.ref 0 4 0 0),(16,.ref 1 3 0 0),(19,(Qix x16)),(22,(I (w64 (y65+x73)))),(23,(I (w64 (y66+x82.Loss)))),(24,(I (w64 (y67+1))))] [0,1] [(Qjy p1),(Qiy x10)] hq (pw (pc (rnd Qbo) (pc (rnd Qaf) (prr (prr (pc (rnd Qaf) (pw (pw (pw pn))))))))) (qb (lcc (lcc ln)) (qb (lc (rnd Qar) (lc (rnd Qa3) (lc (rnd Qaf) ln))) qn))) (ih (w64 (y65+x73),w64 (y66+x82.Loss),w64 (y67+1)) h)
        ·exact wfn hc81<|Qam<|bln<|thn<|wxz1<|thn<|arm (mto (n:=235) [(4,(K .u16 p4)),(5,(Qkx p5)),(6,(.dat 1 (p6.map Qab))),(8,.ref 0 4 0 0),(16,.ref 1 3 0 0),(19,(Qix x16)),(22,(I (w64 (y65+x73)))),(23,I y66),(24,(I (w64 (y67+1))))] [0,1] [(Qjy p1),(Qiy x10)] hq (pw (pc (rnd Qbo) (pc (rnd Qaf) (prr (prr (pc (rnd Qaf) (pw (pw (pw pn))))))))) (qb (lcc (lcc ln)) (qb (lc (rnd Qar) (lc (rnd Qa3) (lc (rnd Qaf) ln))) qn))) (ih (w64 (y65+x73),y66,w64 (y67+1)) h)
       ·exact wfn hc72<|Qb4<|Qa4<|Qa4<|Qb3 rfl<|thn<|⟨(y65,y66),h,(mto (n:=235) [(4,(K .u16 p4)),(8,.ref 0 4 0 0),(16,.ref 1 3 0 0),(19,(Qix x16)),(22,I y65),(23,I y66)] [0,1] [(Qjy p1),(Qiy x10)] hq (pw (prr (prr (pc (rnd Qaf) (pw (pw pn)))))) (qb (lcc (lcc ln)) (qb (lc (rnd Qar) (lc (rnd Qa3) (lc (rnd Qaf) ln))) qn)))⟩
   ·skip
    refine bfe h (fun hb86 h=>?_) fun hb86 h=>?_
    ·exact wx tbk [(2,rp [(.tmp 76,(B ((x10.2.2 != 0))))] (B true))] ⟨asb hb86 (amv rfl),tv⟩<|wtr<|wxz<|Qad<|Qae<|frb h
    ·refine hpre (A:=(Qwa x10)) ⟨asb hb86 (amv rfl),ag_ (alq 1 Qag x10.1.Out underlying42),tv⟩ fun q3_=>?_
     refine bfe h (fun hb87 h=>?_) fun hb87 h=>?_
     ·exact wx tbk (hcat (Qwa x10) [(8,rp [(.tmp 82,(B (((x10.1.Out.length:Int) != 3))))] (B true))]) (hap q3_ ⟨asb hb87 (amv rfl),tv⟩)<|wtr<|wxz<|Qad<|Qae<|frb h
     ·obtain⟨x88,hg89,h⟩:=bno h
      obtain⟨hi90,hj91⟩:=gsm hg89
      refine hpre (A:=(Qv9 x10 x88)) (hap q3_ ⟨asb hb87 (amv rfl),ag_ (aiq underlying42 ti51 Qag hi90 hj91),ag_ (alq 4 Qac x88 underlying51),tv⟩) fun q4_=>?_
      refine bfe h (fun hb92 h=>?_) fun hb92 h=>?_
      ·exact wx tbk (hcat (Qv9 x10 x88) [(16,rp [(.tmp 90,(B (((x88.length:Int) != 2))))] (B true))]) (hap q4_ ⟨asb hb92 (amv rfl),tv⟩)<|wtr<|wxz<|Qad<|Qae<|frb h
      ·obtain⟨x93,hg94,h⟩:=bno h
       obtain⟨hi95,hj96⟩:=gsm hg94
       refine hpre (A:=(Qv8 x10 x88 x93)) (hap q4_ ⟨asb hb92 (amv rfl),ag_ (aiq underlying42 ti51 Qag hi95 hj96),ag_ (alq 4 Qac x93 underlying51),tv⟩) fun q5_=>?_
       refine bfe h (fun hb97 h=>?_) fun hb97 h=>?_
       ·exact wx tbk (hcat (Qv8 x10 x88 x93) [(24,rp [(.tmp 98,(B (((x93.length:Int) != 1))))] (B true))]) (hap q5_ ⟨asb hb97 (amv rfl),tv⟩)<|wtr<|wxz<|Qad<|Qae<|frb h
       ·refine wx tbk (hcat (Qv8 x10 x88 x93) [(24,rp [(.tmp 98,(B (((x93.length:Int) != 1))))] (B false)),(27,rp [(.tmp 99,B false),(.tmp 101,(.dat 4 (x10.1.Lost.map Qau)))] (I ((x10.1.Lost.length:Int))))]) (hap q5_ ⟨asb hb97 (amv rfl),ag_ (alq 4 Qau x10.1.Lost underlying43),tv⟩) ?_
        refine bfe h (fun hc98 h=>?_) fun hc98 h=>?_
        ·exact wft hc98<|wxz<|Qad<|Qae<|frb h
        ·exact wfn hc98<|Qam<|thn<|⟨(),h,(mto (n:=235) [(4,(K .u16 p4)),(5,(Qkx p5)),(6,(.dat 1 (p6.map Qab))),(8,.ref 0 4 0 0),(16,.ref 2 3 0 0)] [0,2] [(Qjy p1),(Qiy x10)] hq (pw (pc (rnd Qbo) (pc (rnd Qaf) (prr (prr pn))))) (qb (lcc (lcc ln)) (qb (lc (rnd Qar) (lc (rnd Qa3) (lc (rnd Qaf) ln))) qn)))⟩
  ·skip
   obtain⟨x100,hf99,h⟩:=bno h
   refine hpre (A:=(Qv7 p0 x100)) ⟨apv Zgr (Qqb N p0 _ hf99) (nlc (nld Qaw _) nl0) nll,tv⟩ fun q6_=>?_
   refine bfe h (fun hb101 h=>?_) fun hb101 h=>?_
   ·refine wx tbk (hcat (Qv7 p0 x100) [(3,rp [(.tmp 31,(B ((!x100))))] (B true))]) (hap q6_ ⟨asb hb101 (amv rfl),tv⟩)<|wtr ?_
    obtain⟨x103,hf102,h⟩:=bno h
    exact wx tbk [(0,rp _ _)] ⟨apw Qlh (Qfq 2000  _ hf102),tv⟩<|Qad<|Qae<|frb h
   ·obtain⟨x105,hf104,h⟩:=bno h
    refine hpre (A:=(Qv6 p0 x100 p1 x105)) (hap q6_ ⟨asb hb101 (amv rfl),ag_ (apv Zgq (Qlc N p1 _ hf104) (nlc (NLt.agg _ (nlcc (nlcc nl0))) nl0) nll),tv⟩) fun q7_=>?_
    refine bfe h (fun hb106 h=>?_) fun hb106 h=>?_
    ·refine wx tbk (hcat (Qv6 p0 x100 p1 x105) [(8,rp [(.tmp 36,(B ((!x105))))] (B true))]) (hap q7_ ⟨asb hb106 (amv rfl),tv⟩)<|wtr ?_
     obtain⟨x108,hf107,h⟩:=bno h
     exact wx tbk [(0,rp _ _)] ⟨apw Qlh (Qfq 2000  _ hf107),tv⟩<|Qad<|Qae<|frb h
    ·refine hpre (A:=(Qv5 p0 x100 p1 x105 p5)) (hap q7_ ⟨asb hb106 (amv rfl),ag_ (alq 4 Qat p5 underlying28),tv⟩) fun q8_=>?_
     refine bfe h (fun hb109 h=>?_) fun hb109 h=>?_
     ·refine wx tbk (hcat (Qv5 p0 x100 p1 x105 p5) [(13,rp [(.tmp 41,(B ((decide ((p5.length:Int)>35)))))] (B true))]) (hap q8_ ⟨asb hb109 (amv rfl),tv⟩)<|wtr ?_
      obtain⟨x111,hf110,h⟩:=bno h
      exact wx tbk [(0,rp _ _)] ⟨apw Qlh (Qfq 2000  _ hf110),tv⟩<|Qad<|Qae<|frb h
     ·obtain⟨x113,hf112,h⟩:=bno h
      refine hpre (A:=(Qv4 p0 x100 p1 x105 p5 x113)) (hap q8_ ⟨asb hb109 (amv rfl),ag_ (apv Zgp (Qqa N p5 _ hf112) (nlc (nld Qbo _) nl0) nll),tv⟩) fun q9_=>?_
      refine bfe h (fun hb114 h=>?_) fun hb114 h=>?_
      ·refine wx tbk (hcat (Qv4 p0 x100 p1 x105 p5 x113) [(18,rp [(.tmp 46,(B ((!x113))))] (B true))]) (hap q9_ ⟨asb hb114 (amv rfl),tv⟩)<|wtr ?_
       obtain⟨x116,hf115,h⟩:=bno h
       exact wx tbk [(0,rp _ _)] ⟨apw Qlh (Qfq 2000  _ hf115),tv⟩<|Qad<|Qae<|frb h
      ·obtain⟨x118,hf117,h⟩:=bno h
       refine wx tbk (hcat (Qv4 p0 x100 p1 x105 p5 x113) [(18,rp [(.tmp 46,(B ((!x113))))] (B false)),(21,rp [(.tmp 47,B false),fu 9,(.tmp 48,(Qkx p5)),(.tmp 49,(.dat 1 (p6.map Qab)))] (B x118))]) (hap q9_ ⟨asb hb114 (amv rfl),ag_ (apv Zgo (Qrm N p5 p6 _ hf117) (nlc (nld Qbo _) (nlc (nld Qaf _) nl0)) nll),tv⟩) ?_
       refine bfe h (fun hc119 h=>?_) fun hc119 h=>?_
       ·refine wft hc119 ?_
        obtain⟨x121,hf120,h⟩:=bno h
        exact wx tbk [(0,rp _ _)] ⟨apw Qlh (Qfq 2000  _ hf120),tv⟩<|Qad<|Qae<|frb h
       ·exact wfn hc119<|Qam<|thn<|⟨(),h,(mto (n:=235) [(0,(.dat 5 (p0.map Qap))),(2,(K .u8 p2)),(3,(K .u32 p3)),(4,(K .u16 p4)),(5,(Qkx p5)),(6,(.dat 1 (p6.map Qab))),(8,.ref 0 4 0 0)] [0] [(Qjy p1)] hq (pc (rnd Qaw) (pw (pw (pw (pc (rnd Qbo) (pc (rnd Qaf) (prr pn))))))) (qb (lcc (lcc ln)) qn))⟩
end
section
theorem Qmz (N:Nat) (a lo hi:Int):Qd5 N a lo hi=some (btw a lo hi):=by
 unfold Qd5 btw
 by_cases h:lo≤a<;>simp[h]
theorem Q5f (N:Nat) (a lo hi:Int):Qfy N a lo hi=some (btw a lo hi):=by
 unfold Qfy btw
 by_cases h:lo≤a<;>simp[h]
end
section
theorem Za2 (a b:Nat):((a:Int)==(b:Int))=decide (a=b):=by
 by_cases h:a=b
 ·subst h;simp
 ·rw[decide_eq_false h]
  exact beq_eq_false_iff_ne.2 (by omega)
def Q4t (x:Qbg):Bool:=btw x.Loss 0 1000000000&&btw x.Limit 0 1000000000&&btw x.Rank 0 100
def Qn8 (i:Nat):List Qbg→Bool
 |[]=>true
 |x::l=>(decide (i=0)||btw x.Parent 0 ((i:Int)-1))&&Q4t x&&Qn8 (i+1) l
def Q8c:List Qbg→Bool
 |[]=>false
 |x::_=>(x.Parent==-1)&&(x.Loss==0)&&(x.Limit==0)
def Qjh (t:List Qbg):Bool:=btw t.length 1 30&&Q8c t&&Qn8 0 t
theorem Zau (N:Nat) (x:Int):Qg2 N x=some (btw x 0 1000000000):=by
 unfold Qg2
 rw[Qmz]
 rfl
theorem Qwg (N:Nat) (t:List Qbg) (k:Unit→Option Bool) (hl:t.length≤1000):∀(n i:Nat),(t.drop i).length<n →
  Qcj N t k n i=bif Qn8 i (t.drop i) then k () else some false:=by
 intro n
 induction n with
 |zero=>intro i h;cases h
 |succ n ih=>
  intro i h
  rw[Qcj]
  cases hd:t.drop i with
  |nil=>
   have:=Qdv hd
   simp[show ¬((i:Int)<t.length) from by omega,Qn8]
  |cons b l=>
   obtain⟨hi,hd',hlt⟩:=Qc4 hd
   have e1:w64 ((i:Int)+1)=((i+1:Nat):Int):=Qbb (by omega) (by omega)
   have ih':=ih (i+1) (dlt hd hd' h)
   rw[hd'] at ih'
   simp only[dlI hlt,cond_true,Qcn hi,Option.bind_some,Qmz,Zau,e1,ih',Qn8,Q4t]
   rcases Nat.eq_zero_or_pos i with rfl |hp
   ·cases btw b.Loss 0 1000000000<;>cases btw b.Limit 0 1000000000<;>cases btw b.Rank 0 100<;>simp
   ·have e2:w64 ((i:Int)-1)=(i:Int)-1:=Qbb (by omega) (by omega)
    simp only[e2,show decide ((i:Int)>0)=true from by simpa using hp,cond_true,show decide (i=0)=false from by simp;omega,Bool.false_or]
    cases btw b.Parent 0 ((i:Int)-1)<;>cases btw b.Loss 0 1000000000<;>cases btw b.Limit 0 1000000000<;>cases btw b.Rank 0 100<;>simp
theorem Qwf (N:Nat) (t:List Qbg) (k:Unit→Option Bool) (hl:t.length≤1000):∀(n i:Nat),(t.drop i).length<n →
  Qdc N t k n i=bif Qn8 i (t.drop i) then k () else some false:=by
 intro n
 induction n with
 |zero=>intro i h;cases h
 |succ n ih=>
  intro i h
  rw[Qdc]
  cases hd:t.drop i with
  |nil=>
   have:=Qdv hd
   simp[show ¬((i:Int)<t.length) from by omega,Qn8]
  |cons b l=>
   obtain⟨hi,hd',hlt⟩:=Qc4 hd
   have e1:w64 ((i:Int)+1)=((i+1:Nat):Int):=Qbb (by omega) (by omega)
   have ih':=ih (i+1) (dlt hd hd' h)
   rw[hd'] at ih'
   simp only[dlI hlt,cond_true,Qcn hi,Option.bind_some,Q5f,e1,ih',Qn8,Q4t]
   rcases Nat.eq_zero_or_pos i with rfl |hp
   ·cases btw b.Loss 0 1000000000<;>cases btw b.Limit 0 1000000000<;>cases btw b.Rank 0 100<;>simp
   ·have e2:w64 ((i:Int)-1)=(i:Int)-1:=Qbb (by omega) (by omega)
    simp only[e2,show decide ((i:Int)>0)=true from by simpa using hp,cond_true,show decide (i=0)=false from by simp;omega,Bool.false_or]
    cases btw b.Parent 0 ((i:Int)-1)<;>cases btw b.Loss 0 1000000000<;>cases btw b.Limit 0 1000000000<;>cases btw b.Rank 0 100<;>simp
theorem Qr6 {t:List Qbg}(h:1≤t.length):∃x l,t=x::l:=by
 cases t with
 |nil=>simp at h
 |cons x l=>exact⟨x,l,rfl⟩
theorem Q3o {N:Nat}{t:List Qbg}(hl:t.length≤1000) (hN:2000≤N):Qft N t=some (Qjh t):=by
 unfold Qft Qjh
 simp only[Qb7,Qmz,Option.bind_some]
 cases hb:btw t.length 1 30 with
 |false=>rfl
 |true=>
  obtain⟨x,l,rfl⟩:=Qr6 (t:=t) (by have:=(Qc6.1 hb).1;omega)
  have:=Qwg N (x::l) (fun _=>some true) hl N 0 (by simp at hl ⊢;omega)
  rw[show((0:Nat):Int)=0 from rfl,List.drop_zero] at this
  rw[this]
  simp only[show getI (x::l) 0=some x from rfl,Option.bind_some,Q8c,Bool.not_true,cond_false]
  simp only[bne]
  cases (x.Parent==-1)<;>cases (x.Loss==0)<;>cases (x.Limit==0)<;>cases Qn8 0 (x::l)<;>rfl
theorem Q3n {N:Nat}{t:List Qbg}(hl:t.length≤1000) (hN:2000≤N):Qia N t=some (Qjh t):=by
 unfold Qia Qjh
 simp only[Qb7]
 by_cases h1:(t.length:Int)<1
 ·simp[h1,btw,show ¬((1:Int)≤t.length) from by omega]
 ·by_cases h2:(t.length:Int)>30
  ·simp[h1,h2,btw,show ¬((t.length:Int)≤30) from by omega]
  ·obtain⟨x,l,rfl⟩:=Qr6 (t:=t) (by omega)
   have:=Qwf N (x::l) (fun _=>some true) hl N 0 (by simp at hl ⊢;omega)
   rw[show((0:Nat):Int)=0 from rfl,List.drop_zero] at this
   rw[this]
   simp only[h1,h2,decide_false,cond_false,show getI (x::l) 0=some x from rfl,Option.bind_some,Q8c,Qc6.2 ⟨show(1:Int)≤((x::l).length:Nat) by omega,show(((x::l).length:Nat):Int)≤30 by omega⟩,Bool.true_and]
   simp only[bne]
   cases (x.Parent==-1)<;>cases (x.Loss==0)<;>cases (x.Limit==0)<;>cases Qn8 0 (x::l)<;>rfl
def Qjf (l:List Int):Bool:=l.all fun x=>btw x 0 1000000000
theorem Qxi (N:Nat) (t:List Int) (k:Unit→Option Int) (hl:t.length≤1000):∀(n i:Nat),(t.drop i).length<n→i≤t.length →
  Qbj N t k n i=bif Qjf (t.drop i) then k () else some ((i:Int)+((t.drop i).findIdx fun x=>!btw x 0 1000000000:Nat)):=by
 intro n
 induction n with
 |zero=>intro i h;cases h
 |succ n ih=>
  intro i h hi
  rw[Qbj]
  cases hd:t.drop i with
  |nil=>
   have:=Qdv hd
   simp[show ¬((i:Int)<t.length) from by omega,Qjf]
  |cons b l=>
   obtain⟨hg,hd',hlt⟩:=Qc4 hd
   have e1:w64 ((i:Int)+1)=((i+1:Nat):Int):=Qbb (by omega) (by omega)
   have ih':=ih (i+1) (dlt hd hd' h) hlt
   rw[hd'] at ih'
   simp only[dlI hlt,cond_true,Qcn hg,Option.bind_some,Qgh,Zau,e1,ih',Qjf,List.all_cons,List.findIdx_cons]
   cases hb:btw b 0 1000000000 with
   |false=>simp
   |true=>
    cases hu:(l.all fun x=>btw x 0 1000000000) with
    |true=>simp
    |false=>simp;omega
theorem Q7l {N:Nat}{t:List Int}(hl:t.length≤1000) (hN:2000≤N):Qf9 N t=some (Qjf t):=by
 unfold Qf9 Qdb Qdo
 simp only[Qb7]
 have:=Qxi N t (fun _=>some (-1)) hl N 0 (by simp;omega) (Nat.zero_le _)
 rw[show((0:Nat):Int)=0 from rfl,List.drop_zero] at this
 rw[this]
 cases Qjf t with
 |true=>rfl
 |false=>simp
theorem Zb8 {N:Nat}{t:List Qbg}{l:List Int}(ht:t.length≤1000) (hl:l.length≤1000) (hN:2000≤N):Qj0 N t l=some (bif Qjh t then(bif Qjf l&&decide (l.length=t.length) then 0 else 2) else 1):=by
 unfold Qj0
 simp only[Q3o ht hN,Option.bind_some,Q7l hl hN]
 cases Qjh t with
 |false=>rfl
 |true=>
  rw[bne,Za2]
  cases decide (l.length=t.length)<;>cases Qjf l<;>rfl
theorem Qve (N:Nat) (t:List Qbg) (k:List Qbg→Option (List Qbg)) (hl:t.length≤1000):∀(n i:Nat) (acc:List Qbg),(t.drop i).length<n→i≤t.length→acc.length=i →
  Qd3 N t k n acc i=k (acc++t.drop i):=by
 intro n
 induction n with
 |zero=>intro i _ h;cases h
 |succ n ih=>
  intro i acc h hi hacc
  rw[Qd3]
  cases hd:t.drop i with
  |nil=>
   have:=Qdv hd
   simp[show ¬((i:Int)<t.length) from by omega]
  |cons b l=>
   obtain⟨hg,hd',hlt⟩:=Qc4 hd
   have e1:w64 ((i:Int)+1)=((i+1:Nat):Int):=Qbb (by omega) (by omega)
   simp only[dlI hlt,cond_true,Qcn hg,Option.bind_some,e1]
   rw[ih (i+1) (acc++[b]) (dlt hd hd' h) hlt (by simp[hacc]),hd']
   simp only[chk,show decide ((acc.length+[b].length)*32≤140737488355328)=true from by simp;omega,cond_true,List.append_assoc,List.cons_append,List.nil_append]
theorem Q9o {N:Nat}{t:List Qbg}(hl:t.length≤1000) (hN:2000≤N):Qi7 N t=some t:=by
 unfold Qi7
 simp only[Qb7]
 have:=Qve N t (fun y1=>some y1) hl N 0 [] (by simp;omega) (by omega) rfl
 simpa using this
structure Zii (i:Nat) (x:Qbg):Prop where
 par:0<i→0≤x.Parent∧x.Parent<i
 top:i=0→x.Parent=-1∧x.Loss=0∧x.Limit=0
 loss:0≤x.Loss∧x.Loss≤1000000000
 limit:0≤x.Limit∧x.Limit≤1000000000
 rank:0≤x.Rank∧x.Rank≤100
theorem Qyp:∀(l:List Qbg) (k i:Nat) (x:Qbg),Qn8 k l=true→l[i]? = some x→(k+i=0∨0≤x.Parent∧x.Parent≤((k+i:Nat):Int)-1)∧Q4t x=true
 |[],_,_,_,_,h=>by simp at h
 |y::l,k,0,x,h,hx=>by
  simp at hx
  subst hx
  simp only[Qn8,Bool.and_eq_true,Bool.or_eq_true,decide_eq_true_eq,Qc6] at h
  exact⟨by omega,h.1.2⟩
 |y::l,k,i+1,x,h,hx=>by
  simp only[Qn8,Bool.and_eq_true] at h
  have:=Qyp l (k+1) i x h.2 (by simpa using hx)
  rw[show k+(i+1)=k+1+i by omega]
  exact this
theorem Qmj {t:List Qbg}(h:Qjh t=true) {i:Nat}{x:Qbg}(hx:t[i]? = some x):Zii i x:=by
 simp only[Qjh,Bool.and_eq_true] at h
 obtain⟨⟨h1,h2⟩,h3⟩:=h
 obtain⟨h4,h5⟩:=Qyp t 0 i x h3 hx
 simp only[Q4t,Bool.and_eq_true,Qc6] at h5
 refine⟨fun hp=>by omega,fun h0=>?_,h5.1.1,h5.1.2,h5.2⟩
 subst h0
 cases t with
 |nil=>simp at hx
 |cons y l=>
  simp at hx
  subst hx
  simp only[Q8c,Bool.and_eq_true,beq_iff_eq] at h2
  exact⟨h2.1.1,h2.1.2,h2.2⟩
theorem Qpj {t:List Qbg}(h:Qjh t=true):1≤t.length∧t.length≤30:=by
 simp only[Qjh,Bool.and_eq_true,Qc6] at h
 omega
theorem Q3q {l:List Int}(h:Qjf l=true) {i:Nat}{x:Int}(hx:l[i]? = some x):0≤x∧x≤1000000000:=
 Qc6.1 (List.all_eq_true.1 h x (List.mem_of_getElem? hx))
end
section
def Qil (o:Int) (x:Qbg):Int:=if o>0 then o+x.Loss else o
def stp (x:Qbg) (o:Int) (out:List Int) (i:Nat):List Int:=
 if x.Parent≥0 then(out.set i (Qil o x)).set x.Parent.toNat (out.getD x.Parent.toNat 0+Qil o x) else out.set i (Qil o x)
def run (t:List Qbg):Nat→List Int→List Int
 |0,out=>out
 |m+1,out=>match t[m]?,out[m]? with
  |some x,some o=>run t m (stp x o out m)
  |_,_=>out
def Qkf (t:List Qbg) (uses:List Int):List Int:=run t t.length uses
theorem Q31 (x:Qbg) (o:Int) (out:List Int) (i:Nat):(stp x o out i).length=out.length:=by unfold stp;split<;>simp
theorem Qwp (t:List Qbg):∀(m:Nat) (out:List Int),(run t m out).length=out.length
 |0,_=>rfl
 |m+1,out=>by
  rw[run]
  split
  ·rw[Qwp t m,Q31]
  ·rfl
def sumT (l:List Int) (m:Nat):Int:=(l.take m).sum
theorem Qhy {l:List Int}{m:Nat}{x:Int}(h:l[m]? = some x):sumT l (m+1)=sumT l m+x:=by
 unfold sumT
 rw[List.take_add_one,h]
 simp
theorem Qk8 {l:List Int}{m i:Nat}{x:Int}(h:m≤i):sumT (l.set i x) m=sumT l m:=by
 unfold sumT
 rw[List.take_set_of_le h]
theorem Qyt {l:List Int}:∀{m i:Nat}{x y:Int},i<m→l[i]? = some y→sumT (l.set i x) m=sumT l m-y+x:=by
 unfold sumT
 induction l with
 |nil=>intro m i x y _ h;simp at h
 |cons a l ih=>
  intro m i x y hm h
  cases m with
  |zero=>omega
  |succ m=>
   cases i with
   |zero=>simp at h;subst h;simp;omega
   |succ i=>
    have:=ih (m:=m) (i:=i) (x:=x) (y:=y) (by omega) (by simpa using h)
    simp only[List.set_cons_succ,List.take_succ_cons,List.sum_cons,this]
    omega
structure Qsm (t:List Qbg) (m:Nat) (out:List Int):Prop where
 len:out.length=t.length
 pos:∀(i:Nat) x,out[i]? = some x→0≤x
 bd:sumT out m+1000000000*m≤100000000000
theorem Qtd {l:List Int}(h:∀(i:Nat) x,l[i]? = some x→0≤x):∀{m i:Nat}{x:Int},i<m→l[i]? = some x→0≤x∧x≤sumT l m
 |0,_,_,hm,_=>absurd hm (Nat.not_lt_zero _)
 |m+1,i,x,hm,hx=>by
  have nn:∀m,0≤sumT l m:=fun m=>by
   induction m with
   |zero=>simp[sumT]
   |succ m ih=>
    cases hl:l[m]? with
    |none=>unfold sumT at ih ⊢;rw[List.take_add_one,hl];simpa using ih
    |some y=>rw[Qhy hl];have:=h m y hl;omega
  refine⟨h i x hx,?_⟩
  rcases Nat.lt_or_ge i m with hlt |hge
  ·have h1:=Qtd h hlt hx
   cases hl:l[m]? with
   |none=>unfold sumT at h1 ⊢;rw[List.take_add_one,hl];simpa using h1.2
   |some y=>rw[Qhy hl];have:=h m y hl;omega
  ·have:i=m:=by omega
   subst this
   rw[Qhy hx]
   have:=nn i
   omega
theorem Qhk {l:List Int}{i j:Nat}{x:Int}:(l.set i x)[j]? = if i=j then(if i<l.length then some x else none) else l[j]? := List.getElem?_set ..
theorem Qyu {t:List Qbg}(ht:Qjh t=true) {m:Nat}{out:List Int}(h:Qsm t (m+1) out) {x:Qbg}{o:Int}(hx:t[m]? = some x) (ho:out[m]? = some o) :
  Qsm t m (stp x o out m)∧0≤o∧o≤100000000000∧0≤Qil o x∧Qil o x≤100000000000∧(x.Parent≥0→x.Parent<m∧∃p,out[x.Parent.toNat]? = some p∧0≤p∧p+Qil o x≤100000000000):=by
 have hn:=Qmj ht hx
 obtain⟨l0,l1⟩:=hn.loss
 have hm:m<t.length:=(List.getElem?_eq_some_iff.1 hx).1
 have hb:=h.bd
 obtain⟨o0,o1⟩:=Qtd h.pos (Nat.lt_succ_self m) ho
 have hs:=Qhy ho
 have hlo:Qil o x≤o+1000000000:=by unfold Qil;split<;>omega
 have hl0:0≤Qil o x:=by unfold Qil;split<;>omega
 have nn:0≤sumT out m:=by
  rcases Nat.eq_zero_or_pos m with e |hp
  ·subst e;simp[sumT]
  ·have h0:out[0]? = some (out[0]'(by rw[h.len];omega)):=List.getElem?_eq_getElem _
   have:=Qtd h.pos hp h0
   omega
 refine⟨⟨by rw[Q31,h.len],fun i y hi=>?_,?_⟩,o0,by omega,hl0,by omega,fun hp=>?_⟩
 ·unfold stp at hi
  split at hi
  ·rw[Qhk] at hi
   split at hi
   ·split at hi
    ·cases hi
     have:0≤out.getD x.Parent.toNat 0:=by
      rw[List.getD_eq_getElem?_getD]
      cases hq:out[x.Parent.toNat]? with
      |none=>simp
      |some q=>exact h.pos _ q hq
     omega
    ·cases hi
   ·rw[Qhk] at hi
    split at hi
    ·split at hi
     ·cases hi;exact hl0
     ·cases hi
    ·exact h.pos i y hi
  ·rw[Qhk] at hi
   split at hi
   ·split at hi
    ·cases hi;exact hl0
    ·cases hi
   ·exact h.pos i y hi
 ·unfold stp
  split
  ·rename_i hp
   have hm0:0<m:=by
    rcases Nat.eq_zero_or_pos m with e |hp'
    ·have:=(hn.top e).1;omega
    ·exact hp'
   obtain⟨p0,p1⟩:=hn.par hm0
   have hlt:x.Parent.toNat<m:=by omega
   have hq:out[x.Parent.toNat]? = some (out[x.Parent.toNat]'(by rw[h.len];omega)):=List.getElem?_eq_getElem _
   have hq':(out.set m (Qil o x))[x.Parent.toNat]? = some (out[x.Parent.toNat]'(by rw[h.len];omega)):=by rw[Qhk,if_neg (by omega),hq]
   rw[Qyt hlt hq',Qk8 (Nat.le_refl m),List.getD_eq_getElem?_getD,hq,Option.getD_some]
   omega
  ·rw[Qk8 (Nat.le_refl m)]
   omega
 ·have hm0:0<m:=by
   rcases Nat.eq_zero_or_pos m with e |hp'
   ·have:=(hn.top e).1;omega
   ·exact hp'
  obtain⟨p0,p1⟩:=hn.par hm0
  have hlt:x.Parent.toNat<m:=by omega
  have hq:out[x.Parent.toNat]? = some (out[x.Parent.toNat]'(by rw[h.len];omega)):=List.getElem?_eq_getElem _
  obtain⟨q0,q1⟩:=Qtd h.pos hlt hq
  exact⟨p1,_,hq,q0,by omega⟩
theorem Zhm {N:Nat}{t:List Qbg}(ht:Qjh t=true) {m:Nat}{out:List Int}(h:Qsm t (m+1) out) {x:Qbg}{o:Int}(hx:t[m]? = some x) (ho:out[m]? = some o) :
  Qei N m t.length t out=some (stp x o out m):=by
 obtain⟨_,o0,o1,l0,l1,hp⟩:=Qyu ht h hx ho
 have hm:m<t.length:=(List.getElem?_eq_some_iff.1 hx).1
 have hm':decide (m<t.length)=true:=by simpa using hm
 have hset:∀v,(out.set m v)[m]? = some v:=fun v=>by rw[Qhk,if_pos rfl,if_pos (by rw[h.len];exact hm)]
 unfold Qei stp
 simp only[Qb7,chk,Int.toNat_natCast,ho,Option.bind_some,Qcn hx,hm',show decide (0≤(m:Int))=true from by simp,Bool.and_self,cond_true]
 by_cases hpos:o>0
 ·have e3:w64 (o+x.Loss)=Qil o x:=by
   unfold Qil at l1 ⊢
   rw[if_pos hpos] at l1 ⊢
   have:=(Qmj ht hx).loss
   exact Qbb (by omega) (by omega)
  simp only[show decide (o>0)=true from by simpa using hpos,cond_true,e3]
  by_cases hpp:x.Parent≥0
  ·obtain⟨p1,p,hq,q0,q1⟩:=hp hpp
   have e1:(out.set m (Qil o x))[x.Parent.toNat]? = some p:=by rw[Qhk,if_neg (by omega),hq]
   have e2:w64 (p+Qil o x)=p+Qil o x:=Qbb (by omega) (by omega)
   simp only[hpp,decide_true,show decide (x.Parent.toNat<t.length)=true from by simp;omega,Bool.and_self,cond_true,e1,hset,Option.bind_some,if_true,List.getD_eq_getElem?_getD,hq,Option.getD_some,e2]
  ·simp only[hpp,decide_false,cond_false,if_false]
 ·have e3:out.set m (Qil o x)=out:=by
   unfold Qil
   rw[if_neg hpos]
   refine List.ext_getElem? fun i=>?_
   rw[Qhk]
   split
   ·rename_i e
    subst e
    rw[if_pos (by rw[h.len];exact hm),ho]
   ·rfl
  have e4:Qil o x=o:=by rw[Qil,if_neg hpos]
  rw[e4] at e3
  simp only[show decide (o>0)=false from by simpa using hpos,cond_false,e3,e4]
  by_cases hpp:x.Parent≥0
  ·obtain⟨p1,p,hq,q0,q1⟩:=hp hpp
   rw[e4] at q1
   have e2:w64 (p+o)=p+o:=Qbb (by omega) (by omega)
   simp only[hpp,decide_true,show decide (x.Parent.toNat<t.length)=true from by simp;omega,Bool.and_self,cond_true,Option.bind_some,if_true,List.getD_eq_getElem?_getD,hq,Option.getD_some,e2]
  ·simp only[hpp,decide_false,cond_false,if_false]
def Qvp (t:List Qbg):Nat→List (Int×Qbg)
 |0=>[]
 |m+1=>match t[m]? with
  |some x=>((m:Int),x)::Qvp t m
  |none=>[]
theorem Q53 (N:Nat) (t:List Qbg) (hl:t.length≤1000):∀(n m:Nat),m<n→m≤t.length→Qa1 N t n ((m:Int)-1)=some (Qvp t m):=by
 intro n
 induction n with
 |zero=>intro m h;omega
 |succ n ih=>
  intro m h hm
  rw[Qa1]
  cases m with
  |zero=>simp[Qvp]
  |succ m=>
   have e0:(((m+1:Nat):Int)-1)=(m:Int):=by omega
   have hx:t[m]? = some (t[m]'(by omega)):=List.getElem?_eq_getElem _
   have e1:w64 ((m:Int)-1)=(m:Int)-1:=Qbb (by omega) (by omega)
   rw[e0,Qcn hx,e1,Qvp,hx]
   simp only[Option.bind_some,show decide ((m:Int)≥0)=true from by simp,cond_true]
   rw[ih m (by omega) (by omega)]
   rfl
theorem Zd0 {N:Nat}{t:List Qbg}(hl:t.length≤1000) (hN:2000≤N):Qby N t=some (Qvp t t.length):=by
 unfold Qby
 rw[Qbb (by omega) (by omega),Option.bind_some]
 exact Q53 N t hl N t.length (by omega) (Nat.le_refl _)
theorem Qyz (N:Nat) {t:List Qbg}(ht:Qjh t=true) (p1:List Int) (hp:p1.length=t.length) (k:List Int→Option (List Int)):∀(m:Nat) (out:List Int),m≤t.length→Qsm t m out→Qcc N t p1 k (Qvp t m) out=k (run t m out)
 |0,out,_,_=>by rw[Qvp,Qcc,run]
 |m+1,out,hm,h=>by
  have hx:t[m]? = some (t[m]'(by omega)):=List.getElem?_eq_getElem _
  have ho:out[m]? = some (out[m]'(by rw[h.len];omega)):=List.getElem?_eq_getElem _
  rw[Qvp,hx,run,hx,ho]
  dsimp only
  rw[Qcc]
  dsimp only
  rw[hp,Zhm ht h hx ho,Option.bind_some]
  exact Qyz N ht p1 hp k m _ (by omega) (Qyu ht h hx ho).1
theorem Qys:∀(l:List Int),Qjf l=true→l.sum≤1000000000*l.length
 |[],_=>by simp
 |x::l,h=>by
  simp only[Qjf,List.all_cons,Bool.and_eq_true,Qc6] at h
  have:=Qys l h.2
  simp only[List.sum_cons,List.length_cons]
  omega
theorem Qyv {t:List Qbg}{l:List Int}(ht:Qjh t=true) (hu:Qjf l=true) (hl:l.length=t.length):Qsm t t.length l:=by
 refine⟨hl,fun i x hx=>(Q3q hu hx).1,?_⟩
 have h1:=Qys l hu
 have h2:=Qpj ht
 unfold sumT
 rw[←hl,List.take_length]
 omega
theorem Q8d {N:Nat}{t:List Qbg}{l:List Int}(hN:2000≤N) (ht:Qjh t=true) (hu:Qjf l=true) (hl:l.length=t.length):Qfu N t l=some (Qkf t l):=by
 have h2:=Qpj ht
 have hne:(!l.isEmpty)=true:=by
  cases l with
  |nil=>simp at hl;omega
  |cons=>rfl
 unfold Qfu Qc5 Qci
 simp only[chk,hne,cond_true,show decide ((0+l.length)*8≤140737488355328)=true from by simp;omega,Option.bind_some,Qb7,Zd0 (show t.length≤1000 by omega) hN]
 rw[Qyz N ht l hl _ t.length l (Nat.le_refl _) (Qyv ht hu hl)]
 have hlen:(run t t.length l).length=l.length:=Qwp t _ l
 simp only[hlen,Nat.le_refl,decide_true,cond_true,Qkf]
 rw[←hlen,List.take_length]
end
section
def Zgi (t:List Qbg) (i:Nat):Int:=match t[i]? with |some x=>x.Limit |none=>0
def Qtg (t:List Qbg) (l:List Int):Nat→Nat→Int
 |0,_=>-1
 |d+1,i=>if 0<i∧l.getD i 0>Zgi t i then i else Qtg t l d (i+1)
theorem Q5i (N:Nat) {t:List Qbg}{l:List Int}(hl:l.length=t.length) (hs:t.length≤1000):∀(n d i:Nat),d<n→i+d=t.length→Qco N t (fun _=>some (-1)) l n i=some (Qtg t l d i):=by
 intro n
 induction n with
 |zero=>intro d i h;omega
 |succ n ih=>
  intro d i h hd
  rw[Qco]
  cases d with
  |zero=>simp[show ¬((i:Int)<l.length) from by omega,Qtg]
  |succ d=>
   have hg:l[i]? = some (l[i]'(by omega)):=List.getElem?_eq_getElem _
   have hx:t[i]? = some (t[i]'(by omega)):=List.getElem?_eq_getElem _
   have e1:w64 ((i:Int)+1)=((i+1:Nat):Int):=Qbb (by omega) (by omega)
   simp only[show decide ((i:Int)<l.length)=true from by simp;omega,cond_true,Qcn hg,Qcn hx,Option.bind_some,e1,ih d (i+1) (by omega) (by omega)]
   rw[Qtg,List.getD_eq_getElem?_getD,hg,Zgi,hx]
   dsimp only[Option.getD_some]
   rcases Nat.eq_zero_or_pos i with rfl |hp
   ·simp
   ·simp only[show decide ((i:Int)>0)=true from by simpa using hp,cond_true,hp,true_and]
    by_cases hc:l[i]>t[i].Limit<;>simp[hc]
theorem Zc4 {N:Nat}{t:List Qbg}{l:List Int}(hN:2000≤N) (hl:l.length=t.length) (hs:t.length≤1000):Qga N t l=some (Qtg t l t.length 0):=by
 unfold Qga
 simp only[Qb7]
 exact Q5i N hl hs N t.length 0 (by omega) (by omega)
theorem Qu8 (t:List Qbg) (l:List Int):(Qkf t l).length=l.length:=Qwp t _ l
theorem Q6q {N:Nat}{t:List Qbg}{l:List Int}(hN:2000≤N) (ht:t.length≤1000) (hl:l.length≤1000) :
  Qhn N t l=some (bif Qjh t then(bif Qjf l&&decide (l.length=t.length) then(if Qtg t (Qkf t l) t.length 0≥0 then([],Qtg t (Qkf t l) t.length 0,11) else(Qkf t l,0,0)) else([],0,2)) else([],0,1)):=by
 unfold Qhn
 rw[Zb8 ht hl hN]
 cases h1:Qjh t with
 |false=>rfl
 |true=>
  cases h2:(Qjf l&&decide (l.length=t.length)) with
  |false=>rfl
  |true=>
   rw[Bool.and_eq_true,decide_eq_true_eq] at h2
   simp only[cond_true,Option.bind_some,bne_self_eq_false,cond_false,Q8d hN h1 h2.1 h2.2,Zc4 hN ((Qu8 t l).trans h2.2) ht]
   by_cases h3:Qtg t (Qkf t l) t.length 0≥0<;>simp[h3]
theorem Qyw {t:List Qbg}(ht:Qjh t=true):∀(m:Nat) (out:List Int) (j:Nat),m≤j→(run t m out)[j]? = out[j]?
 |0,_,_,_=>rfl
 |m+1,out,j,h=>by
  rw[run]
  split
  ·rename_i x o hx ho
   rw[Qyw ht m _ j (by omega)]
   have hn:=Qmj ht hx
   unfold stp
   split
   ·rename_i hp
    have:x.Parent<m:=by
     rcases Nat.eq_zero_or_pos m with e |hm
     ·have:=(hn.top e).1;omega
     ·exact(hn.par hm).2
    rw[Qhk,if_neg (by omega),Qhk,if_neg (by omega)]
   ·rw[Qhk,if_neg (by omega)]
  ·rfl
end
section
theorem Q7q {s:Qaa}:strB s=true↔(0≤s.Mass∧s.Mass≤1000000)∧(0≤s.Heat∧s.Heat≤4000*s.Mass)∧(0≤s.Silica∧s.Silica≤10000*s.Mass)∧0≤s.Gas∧s.Gas≤1000000000:=by
 simp[strB,Qc6,and_assoc]
def Za4 (s:Qaa) (f:Int):Int:=max 0 (s.Heat-f*s.Mass)
def gotI (s:Qaa) (f w:Int):Int:=min w (Za4 s f)
theorem Q4k {f m:Int}(f0:0≤f) (f1:f≤4000) (m0:0≤m) (m1:m≤1000000):0≤f*m∧f*m≤4000000000:=
 ⟨Int.mul_nonneg f0 m0,Int.le_trans (Int.mul_le_mul_of_nonneg_right f1 m0) (by omega)⟩
theorem Zce (N:Nat) (s:Qaa) {f w:Int}(hs:strB s=true) (f0:0≤f) (f1:f≤4000) (w0:0≤w) (w1:w≤100000000000) :
  Qj1 N ⟨s,f⟩ w=some (⟨s.Mass,s.Heat-gotI s f w,s.Silica,s.Gas⟩,gotI s f w,0):=by
 obtain⟨⟨m0,m1⟩,⟨h0,h1⟩,_,_⟩:=Q7q.1 hs
 obtain⟨q0,q1⟩:=Q4k f0 f1 m0 m1
 unfold Qj1 gotI Za4
 generalize hq:f*s.Mass=q at q0 q1
 have e1:w64 q=q:=Qbb (by omega) (by omega)
 have e2:w64 (s.Heat-q)=s.Heat-q:=Qbb (by omega) (by omega)
 simp only[Qb7,Qzr,hs,cond_true,Option.bind_some,Qmz,Qc6.2 ⟨f0,f1⟩,Qc6.2 ⟨w0,w1⟩,Bool.not_true,cond_false,e1,e2,Qip,Qpi]
 have e3:(if s.Heat-q>0 then s.Heat-q else 0)=max 0 (s.Heat-q):=by split<;>omega
 have e4:(if max 0 (s.Heat-q)<w then max 0 (s.Heat-q) else w)=min w (max 0 (s.Heat-q)):=by split<;>omega
 rw[e3,e4]
 generalize hg:min w (max 0 (s.Heat-q))=g
 have hg0:0≤g∧g≤s.Heat:=by omega
 have e5:w64 (0-g)=-g:=by rw[Qbb (by omega) (by omega)];omega
 have e6:w64 (0-s.Heat)=-s.Heat:=by rw[Qbb (by omega) (by omega)];omega
 have e7:w64 (4000*s.Mass)=4000*s.Mass:=Qbb (by omega) (by omega)
 have e8:w64 (4000*s.Mass-s.Heat)=4000*s.Mass-s.Heat:=Qbb (by omega) (by omega)
 have e9:w64 (s.Heat+-g)=s.Heat-g:=by rw[Qbb (by omega) (by omega)];omega
 rw[e5,e6,e7,e8,e9,show decide (-g < -s.Heat)=false from by simp;omega,show decide (-g>4000*s.Mass-s.Heat)=false from by simp;omega]
 rfl
end
section
def Qfn (t:List Qbg) (L:List Int):Nat→Int
 |0=>0
 |m+1=>Qfn t L m+match t[m]? with |some x=>if L.getD m 0>0 then x.Loss else 0 |none=>0
theorem Q5k {t:List Qbg}(ht:Qjh t=true):∀(m:Nat) (out:List Int),m+1≤t.length→Qsm t (m+1) out→(run t (m+1) out).getD 0 0=sumT out (m+1)+Qfn t (run t (m+1) out) (m+1):=by
 intro m
 induction m with
 |zero=>
  intro out hm hf
  have hx:t[0]? = some (t[0]'(by omega)):=List.getElem?_eq_getElem _
  have ho:out[0]? = some (out[0]'(by rw[hf.len];omega)):=List.getElem?_eq_getElem _
  generalize t[0]'(by omega)=x at hx
  generalize out[0]'(by rw[hf.len];omega)=o at ho
  obtain⟨_,o0,_,l0,_,_⟩:=Qyu ht hf hx ho
  have hn:=Qmj ht hx
  have hL:run t 1 out=stp x o out 0:=by rw[run,hx,ho];rfl
  have h0:(stp x o out 0).getD 0 0=Qil o x:=by
   unfold stp
   rw[if_neg (by have:=(hn.top rfl).1;omega),List.getD_eq_getElem?_getD,Qhk,if_pos rfl,if_pos (by rw[hf.len];omega),Option.getD_some]
  have hs:=Qhy ho
  rw[hL,h0,Qfn,Qfn,hx]
  dsimp only
  rw[h0,hs,show sumT out 0=0 by simp[sumT]]
  have hl:=hn.loss
  unfold Qil
  by_cases hp:o>0
  ·rw[if_pos hp,if_pos (by omega)];omega
  ·rw[if_neg hp,if_neg (by omega)];omega
 |succ m ih=>
  intro out hm hf
  have hx:t[m+1]? = some (t[m+1]'(by omega)):=List.getElem?_eq_getElem _
  have ho:out[m+1]? = some (out[m+1]'(by rw[hf.len];omega)):=List.getElem?_eq_getElem _
  generalize t[m+1]'(by omega)=x at hx
  generalize out[m+1]'(by rw[hf.len];omega)=o at ho
  obtain⟨hf',o0,_,l0,_,hp⟩:=Qyu ht hf hx ho
  have hn:=Qmj ht hx
  have hpar:=hn.par (Nat.succ_pos m)
  obtain⟨_,p,hq,q0,_⟩:=hp hpar.1
  have hL:run t (m+1+1) out=run t (m+1) (stp x o out (m+1)):=by rw[run,hx,ho]
  have hLm:(run t (m+1) (stp x o out (m+1))).getD (m+1) 0=Qil o x:=by
   rw[List.getD_eq_getElem?_getD,Qyw ht (m+1) _ (m+1) (Nat.le_refl _)]
   unfold stp
   rw[if_pos hpar.1,Qhk,if_neg (by omega),Qhk,if_pos rfl,if_pos (by rw[hf.len];omega),Option.getD_some]
  have hsum:sumT (stp x o out (m+1)) (m+1)=sumT out (m+1)+Qil o x:=by
   unfold stp
   rw[if_pos hpar.1,Qyt (y:=p) (by omega) (by rw[Qhk,if_neg (by omega)];exact hq),Qk8 (Nat.le_refl _),List.getD_eq_getElem?_getD,hq,Option.getD_some]
   omega
  have hs:=Qhy ho
  have e:=ih (stp x o out (m+1)) (by omega) hf'
  have hlz:∀R:List Int,Qfn t R (m+1+1)=Qfn t R (m+1)+(match t[m+1]? with |some x=>if R.getD (m+1) 0>0 then x.Loss else 0 |none=>0):=fun _=>rfl
  rw[hL,e,hsum,hs,hlz,hx]
  dsimp only
  rw[hLm]
  have hl:=hn.loss
  unfold Qil
  by_cases hp:o>0
  ·rw[if_pos hp,if_pos (by omega)];omega
  ·rw[if_neg hp,if_neg (by omega)];omega
end
section
theorem Qk6:Qgb 2000=some true:=by decide +kernel
theorem Qwh (N:Nat) (t:List Int) (k:Unit→Option Bool) (hl:t.length≤9223372036854775807):∀(n i:Nat),(t.drop i).length<n →
  Qd1 N k t n i=bif Qjf (t.drop i) then k () else some false:=by
 intro n
 induction n with
 |zero=>intro i h;cases h
 |succ n ih=>
  intro i h
  rw[Qd1]
  cases hd:t.drop i with
  |nil=>
   have:=Qdv hd
   simp[show ¬((i:Int)<t.length) from by omega,Qjf]
  |cons b l=>
   obtain⟨hg,hd',hlt⟩:=Qc4 hd
   have e1:w64 ((i:Int)+1)=((i+1:Nat):Int):=Qbb (by omega) (by omega)
   have ih':=ih (i+1) (dlt hd hd' h)
   rw[hd'] at ih'
   simp only[dlI hlt,cond_true,Qcn hg,Option.bind_some,Q5f,e1,ih',Qjf,List.all_cons]
   cases btw b 0 1000000000<;>simp
theorem Q3p {N:Nat}{t:List Qbg}{l:List Int}(hl:l.length≤9223372036854775807) (hN:l.length<N):Qi1 N t l=some (Qjf l&&decide (l.length=t.length)):=by
 unfold Qi1
 rw[Qnp]
 have:=Qwh N l (fun _=>some ((l.length:Int)==(t.length:Int))) hl N 0 (by simp;omega)
 rw[show((0:Nat):Int)=0 from rfl,List.drop_zero] at this
 rw[this]
 cases Qjf l with
 |false=>rfl
 |true=>rw[Za2];rfl
theorem Zg1 (N:Nat) {t:List GRow}(h:t.length≤1000) (L c:Int):Qj2 N t L c=some (apN t L c):=by
 unfold Qj2 apN
 rw[Qbb (by omega) (by omega)]
theorem Qta {t:List Qbg}(ht:Qjh t=true) (L:List Int):∀(m:Nat),m≤t.length→0≤Qfn t L m∧Qfn t L m≤1000000000*(m:Int)
 |0,_=>⟨Int.le_refl _,Int.le_refl _⟩
 |m+1,h=>by
  have ih:=Qta ht L m (by omega)
  have hx:t[m]? = some (t[m]'(by omega)):=List.getElem?_eq_getElem _
  generalize t[m]'(by omega)=x at hx
  have hl:=(Qmj ht hx).loss
  rw[Qfn,hx]
  dsimp only
  by_cases hp:L.getD m 0>0
  ·rw[if_pos hp];omega
  ·rw[if_neg hp];omega
theorem Qwn {l:List Int}(hu:Qjf l=true):∀(m:Nat),m≤l.length→0≤sumT l m∧sumT l m≤1000000000*(m:Int)
 |0,_=>by simp[sumT]
 |m+1,h=>by
  have ih:=Qwn hu m (by omega)
  have hx:l[m]? = some (l[m]'(by omega)):=List.getElem?_eq_getElem _
  generalize l[m]'(by omega)=x at hx
  have:=Q3q hu hx
  rw[Qhy hx]
  omega
theorem Qw9 (N:Nat) {t:List Qbg}{l L:List Int}{a b:Int}(k:Int×Int→Option Bool) (ht:Qjh t=true) (hu:Qjf l=true) (hl:l.length=t.length) (hL:L.length=t.length):∀(n i:Nat),t.length-i<n→i≤t.length →
  Qcy N t l (L,a,b) k n (sumT l i) (Qfn t L i) i=k (sumT l t.length,Qfn t L t.length):=by
 have h30:=(Qpj ht).2
 intro n
 induction n with
 |zero=>intro i h;omega
 |succ n ih=>
  intro i h hi
  rw[Qcy]
  rcases Nat.lt_or_ge i t.length with hlt |hge
  ·have h1:l[i]? = some (l[i]'(by omega)):=List.getElem?_eq_getElem _
   have h2:L[i]? = some (L[i]'(by omega)):=List.getElem?_eq_getElem _
   have h3:t[i]? = some (t[i]'(by omega)):=List.getElem?_eq_getElem _
   generalize l[i]'(by omega)=u at h1
   generalize L[i]'(by omega)=f at h2
   generalize t[i]'(by omega)=x at h3
   have hu1:=Q3q hu h1
   have hx1:=(Qmj ht h3).loss
   have b1:=Qwn hu i (by omega)
   have b2:=Qta ht L i hi
   have e1:w64 (sumT l i+u)=sumT l (i+1):=by rw[Qhy h1];exact Qbb (by omega) (by omega)
   have e2:w64 ((i:Int)+1)=((i+1:Nat):Int):=Qbb (by omega) (by omega)
   have ih':=ih (i+1) (by omega) hlt
   rw[show decide ((i:Int)<(t.length:Int))=true from by simpa using hlt,cond_true,Qcn h1,Option.bind_some]
   dsimp only
   rw[Qcn h2,Option.bind_some,e1,e2]
   by_cases hf:f>0
   ·have e3:w64 (Qfn t L i+x.Loss)=Qfn t L (i+1):=by
     rw[Qfn,h3];dsimp only
     rw[List.getD_eq_getElem?_getD,h2,Option.getD_some,if_pos hf];exact Qbb (by omega) (by omega)
    rw[decide_eq_true hf,cond_true,Qcn h3,Option.bind_some,e3]
    exact ih'
   ·have e3:Qfn t L i=Qfn t L (i+1):=by
     rw[Qfn,h3];dsimp only
     rw[List.getD_eq_getElem?_getD,h2,Option.getD_some,if_neg hf,Int.add_zero]
    rw[decide_eq_false hf,cond_false,e3]
    exact ih'
  ·have:i=t.length:=by omega
   subst this
   rw[show decide ((t.length:Int)<(t.length:Int))=false from by simp,cond_false]
theorem Q0y (t:List GRow) (s:Qaa) (lv c f:Int) (nodes:List Qbg) (uses:List Int) (gt:Qzg t) (_:Qr7 s) (glv:Zie lv) (gc:Zgk c) (gf:Zgl f) (_:Qu7 nodes) (gu:Q5g uses) :
  Qhq (t.length+uses.length+2000) t s lv c f nodes uses=some true:=by
 obtain⟨N,hN⟩:∃N,N=t.length+uses.length+2000:=⟨_,rfl⟩
 rw[←hN]
 have gt1:=gt.1
 have gu1:=gu.1
 rw[Q44] at gt1 gu1
 unfold Qhq
 rw[Qnp,Q4b (by omega) (by omega),Option.bind_some]
 cases ht:tabB t with
 |false=>rw[show(!false)=true from rfl,cond_true,Qk6,Option.bind_some]
 |true=>
 rw[show(!true)=false from rfl,cond_false,Q4c,Option.bind_some]
 cases hs:strB s with
 |false=>rw[show(!false)=true from rfl,cond_true,Qk6,Option.bind_some]
 |true=>
 rw[show(!true)=false from rfl,cond_false]
 by_cases h35:(nodes.length:Int)>35
 ·rw[decide_eq_true h35,cond_true,Qk6,Option.bind_some]
 rw[decide_eq_false h35,cond_false,Q3n (by omega) (by omega),Option.bind_some]
 cases hn:Qjh nodes with
 |false=>rw[show(!false)=true from rfl,cond_true,Qk6,Option.bind_some]
 |true=>
 rw[show(!true)=false from rfl,cond_false,Q3p (by omega) (by omega),Option.bind_some]
 cases hu0:(Qjf uses&&decide (uses.length=nodes.length)) with
 |false=>rw[show(!false)=true from rfl,cond_true,Qk6,Option.bind_some]
 |true=>
 have hu:=hu0
 rw[Bool.and_eq_true,decide_eq_true_eq] at hu
 obtain⟨hu,hul⟩:=hu
 rw[show(!true)=false from rfl,cond_false]
 have hlen:=Q3y ht
 have hsv:=Qjk.1 hs
 rw[Q7p (by omega) (by omega),Option.bind_some]
 unfold chk
 rw[show((t.length:Int) != 0)=true from bne_iff_ne.2 (by omega),cond_true]
 have blv:=bounds_u8 glv
 have bc:=bounds_u32 gc
 have bf:=bounds_u16 gf
 rw[Qbb (x:=lv) (by omega) (by omega),Qbb (x:=c) (by omega) (by omega),Qbb (x:=f) (by omega) (by omega)]
 obtain⟨L,hLd⟩:∃L,L=lv.tmod (t.length:Int):=⟨_,rfl⟩
 obtain⟨C,hCd⟩:∃C,C=c.tmod 1000000001:=⟨_,rfl⟩
 obtain⟨F,hFd⟩:∃F,F=f.tmod 4001:=⟨_,rfl⟩
 have hL:0≤L∧L≤(t.length:Int)-1:=by
  have h1:=Int.tmod_nonneg (t.length:Int) blv.1
  have h2:=Int.tmod_lt_of_pos lv (show(0:Int)<t.length by omega)
  omega
 have hC:0≤C∧C≤1000000000:=by
  have h1:=Int.tmod_nonneg 1000000001 bc.1
  have h2:=Int.tmod_lt_of_pos c (show(0:Int)<1000000001 by omega)
  omega
 have hF:0≤F∧F≤4000:=by
  have h1:=Int.tmod_nonneg 4001 bf.1
  have h2:=Int.tmod_lt_of_pos f (show(0:Int)<4001 by omega)
  omega
 rw[←hLd,←hCd,←hFd,Zg1 N (by omega),Option.bind_some,Q0m,Option.bind_some,Zgs (Q6g (by omega) L C) (by omega) (by simp) (by simp),Option.bind_some]
 have hd:doA (apN t L C) [0,0,0] [s]=(⟨[[s],[(apF t L s).Steam,(apF t L s).Water],[⟨(apF t L s).Water.Mass,(apF t L s).Water.Heat-apC C (apF t L s).Water,(apF t L s).Water.Silica,(apF t L s).Water.Gas⟩]],[⟨0,0,0,0⟩,⟨0,0,0,(apF t L s).Scale⟩,⟨apC C (apF t L s).Water,0,0,0⟩],[0,(apF t L s).Scale,0]⟩,0,0):=by
  unfold doA
  rw[if_pos (Q6h ht hL hC hs),Q91 ht hL hsv]
  rfl
 have hk:=Qzz ht hL hsv
 generalize apF t L s=P at hd hk
 have hw:=hk.wa
 have hq:=Zg2 hC.1 hw
 generalize apC C P.Water=q at hd hq
 obtain⟨w0,w1,w2,w3,w4,w5,w6,w7⟩:=hw
 have hws:strB ⟨P.Water.Mass,P.Water.Heat-q,P.Water.Silica,P.Water.Gas⟩=true:=Qjk.2 ⟨w0,w1,by show 0≤P.Water.Heat-q;omega,by show P.Water.Heat-q≤4000*P.Water.Mass;omega,w4,w5,w6,w7⟩
 rw[hd,Qnp]
 rw[show((0:Int) != 0)=false from rfl,cond_false]
 dsimp only
 rw[show((([[s],[P.Steam,P.Water],[⟨P.Water.Mass,P.Water.Heat-q,P.Water.Silica,P.Water.Gas⟩]]:List (List Qaa)).length:Int) != 3)=false from rfl,cond_false]
 have g1:getI ([[s],[P.Steam,P.Water],[⟨P.Water.Mass,P.Water.Heat-q,P.Water.Silica,P.Water.Gas⟩]]:List (List Qaa)) 1=some [P.Steam,P.Water]:=rfl
 have g2:getI ([[s],[P.Steam,P.Water],[⟨P.Water.Mass,P.Water.Heat-q,P.Water.Silica,P.Water.Gas⟩]]:List (List Qaa)) 2=some [⟨P.Water.Mass,P.Water.Heat-q,P.Water.Silica,P.Water.Gas⟩]:=rfl
 have g3:getI ([⟨0,0,0,0⟩,⟨0,0,0,P.Scale⟩,⟨q,0,0,0⟩]:List Qba) 2=some ⟨q,0,0,0⟩:=rfl
 rw[g1,Option.bind_some,show((([P.Steam,P.Water]:List Qaa).length:Int) != 2)=false from rfl,cond_false]
 rw[g2,Option.bind_some,show((([⟨P.Water.Mass,P.Water.Heat-q,P.Water.Silica,P.Water.Gas⟩]:List Qaa).length:Int) != 1)=false from rfl,cond_false]
 rw[show((([⟨0,0,0,0⟩,⟨0,0,0,P.Scale⟩,⟨q,0,0,0⟩]:List Qba).length:Int) != 3)=false from rfl,cond_false]
 have htl:=Qpj hn
 rw[Q9o (by omega) (by omega),Option.bind_some,show decide ((([]:List Int).length+uses.length)*8≤140737488355328)=true from by simp;omega,cond_true]
 rw[List.nil_append,Q6q (by omega) (by omega) (by omega),hn,cond_true,hu0,cond_true,Option.bind_some]
 by_cases hfull:Qtg nodes (Qkf nodes uses) nodes.length 0≥0
 ·rw[if_pos hfull]
  dsimp only
  rw[show((11:Int) != 0)=true from rfl,cond_true,show((11:Int)==11)=true from rfl,cond_true,Qk6,Option.bind_some]
 rw[if_neg hfull]
 dsimp only
 have hfl:(Qkf nodes uses).length=nodes.length:=(Qu8 nodes uses).trans hul
 rw[show((0:Int) != 0)=false from rfl,cond_false,show(((Qkf nodes uses).length:Int) != (nodes.length:Int))=false from by rw[hfl];simp,cond_false,Qnp]
 have hlp:=fun k=>Qw9 N (l:=uses) (L:=Qkf nodes uses) (a:=0) (b:=0) k hn hu hul hfl N 0 (by omega) (by omega)
 rw[show sumT uses 0=0 from by simp[sumT],show Qfn nodes (Qkf nodes uses) 0=0 from rfl,show((0:Nat):Int)=0 from rfl] at hlp
 rw[hlp]
 dsimp only
 have hneed:(Qkf nodes uses).getD 0 0=sumT uses nodes.length+Qfn nodes (Qkf nodes uses) nodes.length:=by
  have:=Q5k hn (nodes.length-1) uses (by omega) (by rw[show nodes.length-1+1=nodes.length by omega];exact Qyv hn hu hul)
  rw[show nodes.length-1+1=nodes.length by omega] at this
  exact this
 have b1:=Qwn hu nodes.length (by omega)
 have b2:=Qta hn (Qkf nodes uses) nodes.length (by omega)
 have h0:(Qkf nodes uses)[0]? = some ((Qkf nodes uses)[0]'(by omega)):=List.getElem?_eq_getElem _
 generalize (Qkf nodes uses)[0]'(by omega)=z at h0
 rw[List.getD_eq_getElem?_getD,h0,Option.getD_some] at hneed
 generalize sumT uses nodes.length=A at hneed b1
 generalize Qfn nodes (Qkf nodes uses) nodes.length=B at hneed b2
 have g4:getI ([⟨P.Water.Mass,P.Water.Heat-q,P.Water.Silica,P.Water.Gas⟩]:List Qaa) 0=some ⟨P.Water.Mass,P.Water.Heat-q,P.Water.Silica,P.Water.Gas⟩:=rfl
 have g5:getI (Qkf nodes uses) 0=some z:=Qcn (i:=0) h0
 rw[Option.bind_some,g4,Option.bind_some,g5,Option.bind_some,Zce N _ hws hF.1 hF.2 (by omega) (by omega),Option.bind_some]
 dsimp only
 obtain⟨pb0,pb1⟩:=Q4k hF.1 hF.2 w0 w1
 have ep:w64 (F*P.Water.Mass)=F*P.Water.Mass:=Qbb (by omega) (by omega)
 have ed:w64 (P.Water.Heat-q-F*P.Water.Mass)=P.Water.Heat-q-F*P.Water.Mass:=Qbb (by omega) (by omega)
 have eg:w64 (A+B)=z:=by rw[Qbb (by omega) (by omega)];omega
 rw[Qnp,show((0:Int) != 0)=false from rfl,cond_false,eg,show(z != z)=false from by simp,cond_false]
 obtain⟨s0,s1,s2,s3,_,_,_,_⟩:=hk.st
 have hh:=hk.kh
 obtain⟨_,m1,_,h1',_,_,_,_⟩:=hsv
 have eG:gotI ⟨P.Water.Mass,P.Water.Heat-q,P.Water.Silica,P.Water.Gas⟩ F z=min z (max 0 (P.Water.Heat-q-F*P.Water.Mass)):=rfl
 rw[eG]
 generalize hgd:min z (max 0 (P.Water.Heat-q-F*P.Water.Mass))=g
 by_cases hg:g<z
 ·rw[decide_eq_true hg,cond_true,ep,ed,Option.bind_some,show(g==(if P.Water.Heat-q-F*P.Water.Mass>0 then P.Water.Heat-q-F*P.Water.Mass else 0))=true from by rw[beq_iff_eq];split<;>omega,cond_true,Qk6,Option.bind_some]
 ·have g6:getI ([P.Steam,P.Water]:List Qaa) 0=some P.Steam:=rfl
  rw[decide_eq_false hg,cond_false,Option.bind_some,g6,Option.bind_some,g3,Option.bind_some]
  dsimp only
  rw[Qbb (x:=P.Steam.Heat+q) (by omega) (by omega),Qbb (x:=P.Steam.Heat+q+A) (by omega) (by omega),Qbb (x:=P.Steam.Heat+q+A+B) (by omega) (by omega),Qbb (x:=P.Steam.Heat+q+A+B+(P.Water.Heat-q-g)) (by omega) (by omega),Option.bind_some]
  rw[show(s.Heat==P.Steam.Heat+q+A+B+(P.Water.Heat-q-g))=true from by rw[beq_iff_eq];omega,cond_true,Qk6,Option.bind_some]
end
end Go.Proofs.YtflmombnmnblnaaGreat
