/-
  The texts PSb6, PSc6, PN6, POpn, PE6, PTa6, PTb6, PTc6, X7, PRf6, PRs6, PSt6, PRd6, PKo6, PNet, PFt6, X14, PCa6, PEr6, PCb6, PCc6, PCd6, PCe6, PLf6, X15, PCf6, X12, PSe6, X16 of the proof, one behind the other. No conditions.
-/
import Derived.Test.YtmbhnllcfmiajaaGreatG4
namespace Go.Proofs.YtmbhnllcfmiajaaGreat
open _root_.Go.Proofs.Tryz
section
open Go.RowKit
def Qvt (key:Int→Int) (ls:List Int) (mk:List Bool):Nat→Int
 |0=>-1
 |d+1=>if mk.getD d false=false∧(Qvt key ls mk d<0∨key (ls.getD (Qvt key ls mk d).toNat 0)<key (ls.getD d 0)) then d else Qvt key ls mk d
theorem Qwp (key:Int→Int) (ls:List Int) (mk:List Bool):∀d,((∀i,i<d→mk.getD i false=true)∧Qvt key ls mk d=-1) ∨
  ∃b:Nat,b<d∧Qvt key ls mk d=b∧mk.getD b false=false∧∀i:Nat,i<d→mk.getD i false=false→i=b∨Qk0 key ls b i
 |0=>.inl ⟨fun i h=>absurd h (by omega),rfl⟩
 |d+1=>by
  unfold Qvt
  rcases Qwp key ls mk d with ⟨h1,h2⟩ |⟨b,hb,h2,h3,h4⟩
  ·rw[h2]
   cases hm:mk.getD d false with
   |true=>exact .inl ⟨fun i hi=>(Nat.lt_succ_iff_lt_or_eq.1 hi).elim (h1 i) (fun e=>e▸hm),by rw[if_neg (by simp)]⟩
   |false=>
    rw[if_pos ⟨rfl,.inl (by omega)⟩]
    refine .inr ⟨d,by omega,rfl,hm,fun i hi hn=>?_⟩
    rcases Nat.lt_succ_iff_lt_or_eq.1 hi with h |h
    ·rw[h1 i h] at hn;exact absurd hn (by simp)
    ·exact .inl h
  ·rw[h2]
   by_cases hc:mk.getD d false=false∧((b:Int)<0∨key (ls.getD (b:Int).toNat 0)<key (ls.getD d 0))
   ·rw[if_pos hc]
    have hk:key (ls.getD b 0)<key (ls.getD d 0):=hc.2.elim (fun h=>by omega) (fun h=>by simpa using h)
    refine .inr ⟨d,by omega,rfl,hc.1,fun i hi hn=>?_⟩
    rcases Nat.lt_succ_iff_lt_or_eq.1 hi with h |h
    ·rcases h4 i h hn with rfl |h5
     ·exact .inr (.inl (by simpa using hk))
     ·refine .inr (.inl ?_)
      unfold Qk0 at h5
      simp only[Int.toNat_natCast] at h5 ⊢
      omega
    ·exact .inl h
   ·rw[if_neg hc]
    refine .inr ⟨b,by omega,rfl,h3,fun i hi hn=>?_⟩
    rcases Nat.lt_succ_iff_lt_or_eq.1 hi with h |rfl
    ·exact h4 i h hn
    ·refine .inr ?_
     have:¬key (ls.getD (b:Int).toNat 0)<key (ls.getD i 0):=fun h=>hc ⟨hn,.inr h⟩
     unfold Qk0
     simp only[Int.toNat_natCast] at this ⊢
     omega
theorem Q7a {key:Int→Int}{ls L:List Int}{mk:List Bool}{n k:Nat}(hL:L.Pairwise (Qk0 key ls)) (hm:∀i:Nat,i<n→(i:Int)∈L) (hr:∀x∈L,0≤x∧x<n)
  (hmk:∀i:Nat,i<n→(mk.getD i false=true↔(i:Int)∈L.take k)) (hk:k<L.length):Qvt key ls mk n=L[k]:=by
 have hd:L.Pairwise (· ≠ ·):=hL.imp (fun {a b} h e=>by subst e;exact Qp2 h h)
 obtain⟨x0,x1⟩:=hr L[k] (List.getElem_mem hk)
 have hx:((L[k].toNat:Nat):Int)=L[k]:=Int.toNat_of_nonneg x0
 have hun:mk.getD L[k].toNat false=false:=by
  cases h:mk.getD L[k].toNat false with
  |false=>rfl
  |true=>
   have:=(hmk _ (by omega)).1 h
   rw[hx,List.mem_take_iff_getElem] at this
   obtain⟨i,hi,e⟩:=this
   exact absurd e ((List.pairwise_iff_getElem.1 hd) i k (by omega) hk (by omega))
 rcases Qwp key ls mk n with ⟨h1,_⟩ |⟨b,hb,h2,h3,h4⟩
 ·rw[h1 _ (by omega)] at hun
  exact absurd hun (by simp)
 ·rw[h2]
  rcases h4 L[k].toNat (by omega) hun with h |h
  ·omega
  ·exfalso
   obtain⟨j,hj,e⟩:=List.getElem_of_mem (hm b hb)
   have hjk:¬j<k:=fun hlt=>by
    have:=(hmk b hb).2 (by rw[List.mem_take_iff_getElem];exact⟨j,by omega,e⟩)
    rw[h3] at this
    exact absurd this (by simp)
   rw[hx] at h
   rcases Nat.lt_or_eq_of_le (Nat.le_of_not_lt hjk) with h5 |h5
   ·have:=(List.pairwise_iff_getElem.1 hL) k j hk hj h5
    rw[e] at this
    exact Qp2 h this
   ·subst h5
    rw[e] at h
    exact Qp2 h h
def mark (l:List Bool) (i:Int):List Bool:=l.set i.toNat true
theorem Q17 (l:List Bool) (i:Int):(mark l i).length=l.length:=by simp[mark]
theorem Q6y (p:List Int):∀(l:List Bool) (i:Nat),i<l.length→(∀x∈p,0≤x)→((p.foldl mark l).getD i false=true↔((i:Int)∈p∨l.getD i false=true)):=by
 induction p with
 |nil=>exact fun l i _ _=>by simp
 |cons x r ih=>
  intro l i hi h0
  have hx:=h0 x List.mem_cons_self
  rw[List.foldl_cons,ih (mark l x) i (by rw[Q17];exact hi) (fun y hy=>h0 y (List.mem_cons_of_mem _ hy)),List.mem_cons]
  have e:(mark l x).getD i false=true↔((i:Int)=x∨l.getD i false=true):=by
   simp only[mark,List.getD_eq_getElem?_getD,List.getElem?_set]
   by_cases h:x.toNat=i
   ·have:(i:Int)=x:=by omega
    simp[h,hi,this]
   ·have:¬(i:Int)=x:=by omega
    simp[h,this]
  rw[e]
  constructor
  ·rintro (h |h |h)
   ·exact .inl (.inr h)
   ·exact .inl (.inl h)
   ·exact .inr h
  ·rintro ((h |h) |h)
   ·exact .inr (.inl h)
   ·exact .inl h
   ·exact .inr (.inr h)
theorem Q6x {L:List Int}{n k:Nat}(hr:∀x∈L,0≤x∧x<n) (i:Nat) (hi:i<n):(((L.take k).foldl mark (List.replicate n false)).getD i false=true↔(i:Int)∈L.take k):=by
 rw[Q6y _ _ _ (by simpa using hi) (fun x hx=>(hr x (List.mem_of_mem_take hx)).1)]
 simp[hi,List.getD_eq_getElem?_getD]
def bump (l:List Int) (i:Int):List Int:=l.set i.toNat (l.getD i.toNat 0+1)
theorem Qln (l:List Int) (i:Int):(bump l i).length=l.length:=by simp[bump]
theorem Q0s (p:List Int):∀l:List Int,(p.foldl bump l).length=l.length:=by
 induction p with
 |nil=>exact fun _=>rfl
 |cons x r ih=>exact fun l=>(ih (bump l x)).trans (Qln l x)
theorem Q0t:∀(is l:List Int),is.Nodup→(∀x∈is,0≤x∧x<l.length)→∀i:Nat,i<l.length→(is.foldl bump l)[i]? = some (l.getD i 0+if (i:Int)∈is then 1 else 0)
 |[],l,_,_,i,hi=>by simp[List.getD_eq_getElem?_getD,hi]
 |x::is,l,hn,hb,i,hi=>by
  obtain⟨hx,hn'⟩:=List.nodup_cons.1 hn
  have hbx:=hb x (by simp)
  have ih:=Q0t is (bump l x) hn' (fun y hy=>by rw[Qln];exact hb y (by simp[hy])) i (by rw[Qln];exact hi)
  rw[List.foldl_cons,ih]
  congr 1
  by_cases e:(i:Int)=x
  ·subst e
   have h1:(bump l (i:Int)).getD i 0=l.getD i 0+1:=by
    unfold bump
    rw[Int.toNat_natCast,List.getD_eq_getElem?_getD,List.getElem?_set_self hi]
    rfl
   rw[h1,if_neg hx,if_pos (by simp)]
   omega
  ·have h1:(bump l x).getD i 0=l.getD i 0:=by
    unfold bump
    rw[List.getD_eq_getElem?_getD,List.getElem?_set_ne (by omega),←List.getD_eq_getElem?_getD]
   rw[h1]
   have:((i:Int)∈x::is)↔((i:Int)∈is):=by simp[e]
   simp only[this]
theorem Zak:∀(o:List Int) (i:Nat) (x y:Int),o[i]? = some x→(o.set i y).sum=o.sum+(y-x)
 |[],_,_,_,h=>by simp at h
 |a::o,0,x,y,h=>by simp at h;subst h;simp only[List.set_cons_zero,List.sum_cons];omega
 |a::o,i+1,x,y,h=>by
  have:=Zak o i x y (by simpa using h)
  simp only[List.set_cons_succ,List.sum_cons,this];omega
theorem Q0r:∀(is l:List Int),(∀x∈is,0≤x∧x<l.length)→(is.foldl bump l).sum=l.sum+is.length
 |[],l,_=>by simp
 |x::is,l,h=>by
  have hx:=h x (by simp)
  have hg:l[x.toNat]? = some (l.getD x.toNat 0):=by rw[List.getD_eq_getElem?_getD,List.getElem?_eq_getElem (by omega)];rfl
  rw[List.foldl_cons,Q0r is (bump l x) (fun y hy=>by rw[Qln];exact h y (by simp[hy])),bump,Zak l _ _ _ hg]
  simp only[List.length_cons]
  omega
def Qq6 (M:Int) (ws:List Int):List Int:=ws.map fun w=>M*w/ws.sum
def Qqv (M:Int) (ws:List Int):Int:=M-(Qq6 M ws).sum
def Q6t (key:Int→Int) (ls:List Int) (n:Nat):Nat→List Bool→List Int
 |0,_=>[]
 |k+1,mk=>Qvt key ls mk n::Q6t key ls n k (mark mk (Qvt key ls mk n))
def Qjk (M:Int) (ws:List Int):List Int:=(Q6t (rkey M ws.sum) ws ws.length (Qqv M ws).toNat (List.replicate ws.length false)).foldl bump (Qq6 M ws)
theorem Q4m {key:Int→Int}{ls L:List Int}(hp:L.Perm (ixs ls.length)) (hL:L.Pairwise (Qk0 key ls)):∀(k j:Nat),j+k≤L.length→Q6t key ls ls.length k ((L.take j).foldl mark (List.replicate ls.length false))=(L.drop j).take k
 |0,j,_=>by simp[Q6t]
 |k+1,j,h=>by
  have hr:∀x∈L,0≤x∧x<ls.length:=fun x hx=>Quo.1 (hp.mem_iff.1 hx)
  have hb:Qvt key ls ((L.take j).foldl mark (List.replicate ls.length false)) ls.length=L[j]'(by omega):=Q7a hL (fun i hi=>hp.mem_iff.2 (Quo.2 ⟨by omega,by omega⟩)) hr (fun i hi=>Q6x hr i hi) (by omega)
  have ht:mark ((L.take j).foldl mark (List.replicate ls.length false)) (L[j]'(by omega))=(L.take (j+1)).foldl mark (List.replicate ls.length false):=by
   rw[List.take_add_one,List.getElem?_eq_getElem (by omega),List.foldl_append]
   rfl
  rw[Q6t,hb,ht,Q4m hp hL k (j+1) (by omega),List.drop_eq_getElem_cons (show j<L.length by omega),List.take_succ_cons]
structure WtsV (ws:List Int):Prop where
 l1:1≤ws.length
 l2:ws.length≤20
 w:∀x∈ws,0≤x∧x≤1000
 some:∃x∈ws,x>0
theorem Zj4 {ws:List Int}(h:wtsB ws=true):WtsV ws:=by
 unfold wtsB at h
 simp only[Bool.and_eq_true] at h
 obtain⟨h1,h2,h3⟩:=h
 have:=Qgj.1 h1
 refine⟨by omega,by omega,fun x hx=>Qgj.1 (List.all_eq_true.1 h2 x hx),?_⟩
 obtain⟨x,hx,h4⟩:=List.any_eq_true.1 h3
 exact⟨x,hx,by simpa using h4⟩
theorem Q6k (ws:List Int) (h:∀x∈ws,0≤x∧x≤1000):0≤ws.sum∧ws.sum≤1000*ws.length:=by
 induction ws with
 |nil=>simp
 |cons a l ih=>
  have h1:=ih fun x hx=>h x (List.mem_cons_of_mem _ hx)
  have h2:=h a List.mem_cons_self
  simp only[List.sum_cons,List.length_cons]
  omega
theorem WtsV.sum {ws:List Int}(h:WtsV ws):0<ws.sum∧ws.sum≤20000:=by
 have h1:=Q6k ws h.w
 have h2:=(Q1x fun x hx=>(h.w x hx).1).2.2 h.some
 have:=h.l2
 omega
theorem WtsV.ok {ws:List Int}(h:WtsV ws) {M:Int}(h0:0≤M) (h1:M≤1000000):WOk ws M ws.sum:=⟨h.w,h0,h1,h.sum.1,h.sum.2⟩
theorem Qrx:∀(ws:List Int),(∀x∈ws,0≤x)→∀x∈ws,x≤ws.sum
 |a::l,h,x,hx=>by
  have h1:=(Q1x fun y hy=>h y (List.mem_cons_of_mem a hy)).1
  have h2:=h a List.mem_cons_self
  rw[List.sum_cons]
  rcases List.mem_cons.1 hx with rfl |hx
  ·omega
  ·have:=Qrx l (fun y hy=>h y (List.mem_cons_of_mem a hy)) x hx
   omega
theorem Q5p {M W:Int}(hM:0≤M) (hW:0<W):∀(l:List Int),(∀x∈l,0≤x)→W*(l.map fun w=>M*w/W).sum≤M*l.sum∧M*l.sum≤W*(l.map fun w=>M*w/W).sum+(W-1)*l.length∧0≤(l.map fun w=>M*w/W).sum
 |[],_=>by simp
 |x::l,h=>by
  obtain⟨h1,h2,h3⟩:=Q5p hM hW l fun y hy=>h y (List.mem_cons_of_mem _ hy)
  have b:=h x (by simp)
  have p0:=Int.mul_nonneg hM b
  have q0:=Int.ediv_nonneg p0 (show 0≤W by omega)
  have q1:=Int.emod_add_mul_ediv (M*x) W
  have q2:=Int.emod_nonneg (M*x) (show W≠0 by omega)
  have q3:=Int.emod_lt_of_pos (M*x) hW
  simp only[List.map_cons,List.sum_cons,List.length_cons,Int.mul_add,Int.natCast_add,Int.natCast_one,Int.mul_one]
  omega
theorem Q2c {M:Int}{ws:List Int}(h:WtsV ws) (h0:0≤M):0≤Qqv M ws∧Qqv M ws<ws.length∧0≤(Qq6 M ws).sum:=by
 obtain⟨w0,w1⟩:=h.sum
 obtain⟨b1,b2,b3⟩:=Q5p h0 w0 ws fun x hx=>(h.w x hx).1
 have hl:=h.l1
 generalize hS:(ws.map fun w=>M*w/ws.sum).sum=S at b1 b2 b3
 have hB:(Qq6 M ws).sum=S:=hS
 unfold Qqv
 rw[hB]
 rw[Int.mul_comm M] at b1 b2
 have c1:S≤M:=Int.le_of_mul_le_mul_left b1 w0
 have c2:M<S+ws.length:=by
  apply Decidable.byContradiction
  intro hc
  have:ws.sum*(S+ws.length)≤ws.sum*M:=Int.mul_le_mul_of_nonneg_left (by omega) (by omega)
  rw[Int.mul_add] at this
  rw[Int.sub_mul] at b2
  omega
 omega
theorem Qpr {M:Int}{ws L:List Int}(h:WtsV ws) (h0:0≤M) (hp:L.Perm (ixs ws.length)) (hL:L.Pairwise (Qk0 (rkey M ws.sum) ws)) :
  Q6t (rkey M ws.sum) ws ws.length (Qqv M ws).toNat (List.replicate ws.length false)=L.take (Qqv M ws).toNat:=by
 have hb:=Q2c h h0
 have hlen:=hp.length_eq
 rw[Qjn] at hlen
 have:=Q4m hp hL (Qqv M ws).toNat 0 (by omega)
 simpa using this
theorem Qzp {M:Int}{ws:List Int}(h:WtsV ws) (h0:0≤M) (h1:M≤1000000):∃L:List Int,L.Perm (ixs ws.length)∧L.Pairwise (Qk0 (rkey M ws.sum) ws):=by
 obtain⟨Q,_,q2,q3⟩:=Qzo (N:=1000) (h.ok h0 h1) h.l2 h.l1 (Nat.le_refl _)
 exact⟨Q,q2,q3⟩
theorem Qkn (M:Int) (ws:List Int):(Qq6 M ws).length=ws.length:=by simp[Qq6]
theorem Qh5 (M:Int) (ws:List Int):(Qjk M ws).length=ws.length:=by rw[Qjk,Q0s,Qkn]
theorem Quk {M:Int}{ws:List Int}(h:WtsV ws) (h0:0≤M) (h1:M≤1000000):(Qjk M ws).sum=M:=by
 obtain⟨L,hp,hL⟩:=Qzp h h0 h1
 have hb:=Q2c h h0
 have hlen:=hp.length_eq
 rw[Qjn] at hlen
 rw[Qjk,Qpr h h0 hp hL,Q0r _ _ (fun x hx=>by rw[Qkn];exact Quo.1 (hp.mem_iff.1 (List.mem_of_mem_take hx))),List.length_take]
 unfold Qqv at hb ⊢
 omega
theorem Qyn {M:Int}{ws:List Int}(h:WtsV ws) (h0:0≤M):∀x∈Qq6 M ws,0≤x∧x≤M:=by
 intro x hx
 obtain⟨w,hw,rfl⟩:=List.mem_map.1 hx
 obtain⟨w0,w1⟩:=h.sum
 have:=h.w w hw
 have hle:=Qrx ws (fun y hy=>(h.w y hy).1) w hw
 refine⟨Int.ediv_nonneg (Int.mul_nonneg h0 this.1) (by omega),Int.ediv_le_of_le_mul w0 ?_⟩
 exact Int.mul_le_mul_of_nonneg_left hle h0
theorem Qwg {M:Int}{ws:List Int}(h:WtsV ws) (h0:0≤M) (h1:M≤1000000):∀x∈Qjk M ws,0≤x∧x≤M:=by
 have hs:=Quk h h0 h1
 obtain⟨L,hp,hL⟩:=Qzp h h0 h1
 have hnd:L.Nodup:=hp.nodup_iff.2 (Zbt _)
 have hn:∀x∈Qjk M ws,0≤x:=fun x hx=>by
  obtain⟨i,hi⟩:=List.mem_iff_getElem?.1 hx
  have hil:i<ws.length:=by have:=(List.getElem?_eq_some_iff.1 hi).1;rwa [Qh5] at this
  rw[Qjk,Qpr h h0 hp hL,Q0t _ _ (hnd.sublist (List.take_sublist _ _)) (fun x hx=>by rw[Qkn];exact Quo.1 (hp.mem_iff.1 (List.mem_of_mem_take hx))) i (by rw[Qkn];exact hil)] at hi
  have hbx:=Qyn h h0 ((Qq6 M ws)[i]'(by rw[Qkn];exact hil)) (List.getElem_mem _)
  have hg:(Qq6 M ws).getD i 0=(Qq6 M ws)[i]'(by rw[Qkn];exact hil):=by rw[List.getD_eq_getElem?_getD,List.getElem?_eq_getElem (by rw[Qkn];exact hil)];rfl
  rw[hg] at hi
  have:=Option.some.inj hi
  split at this<;>omega
 intro x hx
 exact⟨hn x hx,by rw[←hs];exact Qrx _ hn x hx⟩
section
variable {N : Nat} {M : Int} {ws : List Int} (h : WtsV ws) (h0 : 0 ≤ M) (h1 : M ≤ 1000000) (hN : 1001 ≤ N)
include h in
theorem Q6d (k:Int→Option (List Int)):∀(n i:Nat) (s:Int),(ws.drop i).length<n→0≤s→s≤1000*i→Qea N ws k n i s=k (s+(ws.drop i).sum):=by
 intro n
 induction n with
 |zero=>intro i _ h;cases h
 |succ n ih=>
  intro i s hn s0 s1
  rw[Qea]
  cases hd:ws.drop i with
  |nil=>
   have:=Qb2 hd
   simp[show ¬((i:Int)<ws.length) from by omega]
  |cons a l=>
   obtain⟨hg,hd',hlt⟩:=Qbp hd
   have ha:=h.w a (List.mem_of_getElem? hg)
   have:=h.l2
   simp only[dlI hlt,cond_true,Qb1 hg,Option.bind_some,List.sum_cons]
   rw[Qcg (x:=(i:Int)+1) (by omega) (by omega),Qcg (x:=s+a) (by omega) (by omega),show(i:Int)+1=((i+1:Nat):Int) by omega,ih (i+1) (s+a) (by rw[hd'];rw[hd] at hn;simp at hn;omega) (by omega) (by omega),hd',Int.add_assoc]
include h h0 h1 in
theorem Zcz (k:Int×List Int→Option (List Int)):∀(n i:Nat) (r:Int) (o:List Int),(ws.drop i).length<n→i≤ws.length→o.length=ws.length-i→-1000000*(i:Int)≤r→r≤1000000 →
  Qeb N M ws ws.sum k n r i (((ws.take i).map fun w=>M*w/ws.sum)++o)=k (r-((ws.drop i).map fun w=>M*w/ws.sum).sum,Qq6 M ws):=by
 intro n
 induction n with
 |zero=>intro i _ _ h;cases h
 |succ n ih=>
  intro i r o hn hi ho r0 r1
  rw[Qeb]
  cases hd:ws.drop i with
  |nil=>
   have:=Qb2 hd
   have e:o=[]:=List.length_eq_zero_iff.1 (by omega)
   simp[show ¬((i:Int)<ws.length) from by omega,e,List.take_of_length_le this,Qq6]
  |cons a l=>
   obtain⟨hg,hd',hlt⟩:=Qbp hd
   have ha:=h.w a (List.mem_of_getElem? hg)
   have hl2:=h.l2
   obtain⟨p0,p1⟩:=h.sum
   obtain⟨x,o',rfl⟩:∃x o',o=x::o':=by
    cases o with
    |nil=>simp at ho;omega
    |cons x o'=>exact⟨x,o',rfl⟩
   have hb:=Qyn h h0 (M*a/ws.sum) (List.mem_map.2 ⟨a,List.mem_of_getElem? hg,rfl⟩)
   have hp:=bdp h0 h1 ha.1 ha.2 (by omega)
   have hlt':((ws.take i).map fun w=>M*w/ws.sum).length=i:=by simp;omega
   have e2:∀y,(((ws.take i).map fun w=>M*w/ws.sum)++y::o')[i]? = some y:=fun y=>by rw[List.getElem?_append_right (by omega),hlt'];simp
   have e3:(((ws.take i).map fun w=>M*w/ws.sum)++x::o').set i (M*a/ws.sum)=((ws.take i).map fun w=>M*w/ws.sum)++(M*a/ws.sum)::o':=by
    rw[List.set_append_right _ _ (by omega),hlt',Nat.sub_self,List.set_cons_zero]
   have e5:((ws.take i).map fun w=>M*w/ws.sum)++(M*a/ws.sum)::o'=((ws.take (i+1)).map fun w=>M*w/ws.sum)++o':=by
    rw[List.take_add_one,hg];simp
   have e4:((i:Int):Int).toNat=i:=by omega
   have c1:(decide ((0:Int)≤(i:Int))&&decide (i<(ws.length:Int).toNat))=true:=by simp;omega
   have ev:w64 ((w64 (M*a)).tdiv ws.sum)=M*a/ws.sum:=by
    rw[Qcg (x:=M*a) (by omega) (by omega),Int.tdiv_eq_ediv_of_nonneg hp.1,Qcg (by omega) (by omega)]
   simp only[dlI hlt,cond_true,Qb1 hg,Option.bind_some,chk,show(ws.sum != 0)=true from by rw[bne_iff_ne];omega,e4,c1,e2,ev,e3]
   rw[Qcg (x:=(i:Int)+1) (by omega) (by omega),Qcg (x:=r-M*a/ws.sum) (by omega) (by omega),show(i:Int)+1=((i+1:Nat):Int) by omega,e5,ih (i+1) _ o' (by rw[hd'];rw[hd] at hn;simp at hn;omega) (by omega) (by simp at ho;omega) (by omega) (by omega),hd',List.map_cons,List.sum_cons]
   congr 2
   omega
theorem Zcy (k:List Int→Option (List Int)) (x13:List Int) (y6:Int) (is:List Int) (his:x13.take (y6.toNat-0)=is) (hlen:is.length≤20) (hr:∀x∈is,0≤x∧x<ws.length):∀(n i:Nat) (o:List Int),(is.drop i).length<n→o.length=ws.length→(∀x∈o,0≤x∧x≤1000000+i) →
  Qec N ws y6 k x13 n i o=k ((is.drop i).foldl bump o):=by
 intro n
 induction n with
 |zero=>intro i _ h;cases h
 |succ n ih=>
  intro i o hn ho hob
  rw[Qec,his]
  cases hd:is.drop i with
  |nil=>
   have:=Qb2 hd
   simp[show ¬((i:Int)<is.length) from by omega]
  |cons b t=>
   obtain⟨hg,hd',hlt⟩:=Qbp hd
   obtain⟨b0,b1⟩:=hr b (List.mem_of_getElem? hg)
   have hx:o[b.toNat]? = some (o.getD b.toNat 0):=by rw[List.getD_eq_getElem?_getD,List.getElem?_eq_getElem (by omega)];rfl
   have hxb:=hob _ (List.mem_of_getElem? hx)
   have c1:(decide ((0:Int)≤b)&&decide (b.toNat<(ws.length:Int).toNat))=true:=by simp;omega
   simp only[dlI hlt,cond_true,Qb1 hg,Option.bind_some,chk,c1,hx]
   rw[Qcg (x:=(i:Int)+1) (by omega) (by omega),Qcg (x:=o.getD b.toNat 0+1) (by omega) (by omega),show(i:Int)+1=((i+1:Nat):Int) by omega]
   have:=ih (i+1) (bump o b) (by rw[hd'];rw[hd] at hn;simp at hn;omega) (by rw[Qln];exact ho) (fun z hz=>by
    rcases List.mem_or_eq_of_mem_set hz with hz |rfl
    ·have:=hob z hz;omega
    ·omega)
   rw[hd'] at this
   exact this
include h h0 h1 hN in
theorem Zbl:Qi5 N M ws=some (Qjk M ws):=by
 have hl1:=h.l1
 have hl2:=h.l2
 unfold Qi5
 simp only[Qbl]
 refine(Q6d h _ N 0 0 (by simp;omega) (by omega) (by omega)).trans ?_
 rw[List.drop_zero,Int.zero_add]
 simp only[chk]
 rw[show(decide ((0:Int)≤(ws.length:Int))&&decide (8*(ws.length:Int)≤281474976710656)&&decide ((ws.length:Int)≤9223372036854775807))=true from by simp;omega,cond_true]
 have eo:=fun k=>Zcz (N:=N) h h0 h1 k N 0 M (List.replicate (ws.length:Int).toNat 0) (by simp;omega) (by omega) (by simp) (by omega) h1
 simp only[List.take_zero,List.map_nil,List.nil_append,List.drop_zero] at eo
 refine(eo _).trans ?_
 dsimp only
 obtain⟨Q,q1,q2,q3⟩:=Qzo (N:=N) (h.ok h0 h1) hl2 hl1 (by omega)
 have hlen:=q2.length_eq
 rw[Qjn] at hlen
 have hb:=Q2c h h0
 have hL:M-(ws.map fun w=>M*w/ws.sum).sum=Qqv M ws:=rfl
 rw[q1,Option.bind_some,hL,show(decide ((0:Nat)≤0)&&decide (0≤Qqv M ws)&&decide (Qqv M ws≤(Q.length:Int)))=true from by simp;omega,cond_true]
 have hr:∀x∈Q.take ((Qqv M ws).toNat-0),0≤x∧x<ws.length:=fun x hx=>Quo.1 (q2.mem_iff.1 (List.mem_of_mem_take hx))
 refine(Zcy _ Q (Qqv M ws) _ rfl (by rw[List.length_take];omega) hr N 0 (Qq6 M ws) (by rw[List.drop_zero,List.length_take];omega) (Qkn _ _) (fun x hx=>by have:=Qyn h h0 x hx;omega)).trans ?_
 have hm:(Q.take ((Qqv M ws).toNat-0)).foldl bump (Qq6 M ws)=Qjk M ws:=by
  rw[Qjk,Qpr h h0 q2 q3,Nat.sub_zero]
 rw[List.drop_zero,hm,Qh5,show decide ((ws.length:Int).toNat≤ws.length)=true from by simp,cond_true,List.take_of_length_le (by rw[Qh5];simp)]
end
end
section
open Go.RowKit
def totS (l:List Qaa):Qaa:=⟨(l.map fun s=>s.Mass).sum,(l.map fun s=>s.Heat).sum,(l.map fun s=>s.Silica).sum,(l.map fun s=>s.Gas).sum⟩
def totW (l:List Qaa):Qaa:=⟨w64 (totS l).Mass,w64 (totS l).Heat,w64 (totS l).Silica,w64 (totS l).Gas⟩
theorem Q98 (N:Nat) (l:List Qaa) (k:Int×Int×Int×Int→Option Qaa) (hl:l.length≤1000000):∀(n i:Nat) (a b c d:Int),(l.drop i).length<n →
  Qfc N l k n i (w64 a) (w64 b) (w64 c) (w64 d)=k (w64 (a+(totS (l.drop i)).Mass),w64 (b+(totS (l.drop i)).Heat),w64 (c+(totS (l.drop i)).Silica),w64 (d+(totS (l.drop i)).Gas)):=by
 intro n
 induction n with
 |zero=>intro i _ _ _ _ h;cases h
 |succ n ih=>
  intro i a b c d h
  rw[Qfc]
  cases hd:l.drop i with
  |nil=>
   have:=Qb2 hd
   simp[show ¬((i:Int)<l.length) from by omega,totS]
  |cons x q=>
   obtain⟨hg,hd',hlt⟩:=Qbp hd
   simp only[dlI hlt,cond_true,Qb1 hg,Option.bind_some,Qnv]
   rw[w64S (i:=i) (by omega),ih (i+1) _ _ _ _ (dlt hd hd' h),hd']
   simp only[totS,List.map_cons,List.sum_cons,Int.add_assoc]
theorem Qxg:w64 0=0:=by decide
theorem Q1v {N:Nat}{l:List Qaa}(hl:l.length≤1000) (hN:1001≤N):Qge N l=some (totW l):=by
 unfold Qge
 simp only[Qbl]
 have:=Q98 N l (fun x=>match x with |(y1,y2,y3,y4)=>some (⟨y1,y2,y3,y4⟩:Qaa)) (by omega) N 0 0 0 0 0 (by simp;omega)
 rw[Qxg,List.drop_zero] at this
 refine this.trans ?_
 simp[totW]
theorem Zac (N:Nat) (l:List Qaa) (k:Int×Int×Int×Int→Option Qaa) (hl:l.length≤1000000):∀(n i:Nat) (a b c d:Int),(l.drop i).length<n →
  Qfr N l k n i (w64 a) (w64 b) (w64 c) (w64 d)=k (w64 (a+(totS (l.drop i)).Mass),w64 (b+(totS (l.drop i)).Heat),w64 (c+(totS (l.drop i)).Silica),w64 (d+(totS (l.drop i)).Gas)):=by
 intro n
 induction n with
 |zero=>intro i _ _ _ _ h;cases h
 |succ n ih=>
  intro i a b c d h
  rw[Qfr]
  cases hd:l.drop i with
  |nil=>
   have:=Qb2 hd
   simp[show ¬((i:Int)<l.length) from by omega,totS]
  |cons x q=>
   obtain⟨hg,hd',hlt⟩:=Qbp hd
   simp only[dlI hlt,cond_true,Qb1 hg,Qj0,Qcs,Option.bind_some,Qnv]
   rw[w64S (i:=i) (by omega),ih (i+1) _ _ _ _ (dlt hd hd' h),hd']
   simp only[totS,List.map_cons,List.sum_cons,Int.add_assoc]
theorem Zkh {N:Nat}{l:List Qaa}(hl:l.length≤1000) (hN:1001≤N):Qk5 N l=some (totW l):=by
 unfold Qk5
 simp only[Qbl]
 have:=Zac N l (fun x=>match x with |(y1,y2,y3,y4)=>some (⟨y1,y2,y3,y4⟩:Qaa)) (by omega) N 0 0 0 0 0 (by simp;omega)
 rw[Qxg,List.drop_zero] at this
 refine this.trans ?_
 simp[totW]
theorem Qnw (s:Qaa) (l:List Qaa):totS (s::l)=⟨s.Mass+(totS l).Mass,s.Heat+(totS l).Heat,s.Silica+(totS l).Silica,s.Gas+(totS l).Gas⟩:=by simp[totS]
theorem Qmz (s:Qaa):totS [s]=s:=by simp[totS]
theorem Q1u (l m:List Qaa):totS (l++m)=⟨(totS l).Mass+(totS m).Mass,(totS l).Heat+(totS m).Heat,(totS l).Silica+(totS m).Silica,(totS l).Gas+(totS m).Gas⟩:=by simp[totS]
structure TotV (t:Qaa) (n:Nat):Prop where
 m0:0≤t.Mass
 m1:t.Mass≤1000000*n
 h0:0≤t.Heat
 h1:t.Heat≤4000*t.Mass
 s0:0≤t.Silica
 s1:t.Silica≤10000*t.Mass
 g0:0≤t.Gas
 g1:t.Gas≤1000000000*n
theorem Qrj:∀{l:List Qaa},(∀s∈l,StrV s)→TotV (totS l) l.length
 |[],_=>⟨by decide,by decide,by decide,by decide,by decide,by decide,by decide,by decide⟩
 |s::l,h=>by
  obtain⟨a1,a2,a3,a4,a5,a6,a7,a8⟩:=Qrj fun x hx=>h x (List.mem_cons_of_mem s hx)
  obtain⟨b1,b2,b3,b4,b5,b6,b7,b8⟩:=h s List.mem_cons_self
  rw[Qnw]
  refine⟨?_,?_,?_,?_,?_,?_,?_,?_⟩<;>simp only[List.length_cons]<;>omega
theorem Qtl {l:List Qaa}(h:∀s∈l,StrV s) (hl:l.length≤1000):totW l=totS l:=by
 obtain⟨a1,a2,a3,a4,a5,a6,a7,a8⟩:=Qrj h
 have:(l.length:Int)≤1000:=by omega
 unfold totW
 rw[Qcg (x:=(totS l).Mass) (by omega) (by omega),Qcg (x:=(totS l).Heat) (by omega) (by omega),Qcg (x:=(totS l).Silica) (by omega) (by omega),Qcg (x:=(totS l).Gas) (by omega) (by omega)]
theorem Zeo {l:List Qaa}(h:∀s∈l,StrV s) (hm:(totS l).Mass≤1000000) (hg:(totS l).Gas≤1000000000):StrV (totS l):=by
 obtain⟨a1,a2,a3,a4,a5,a6,a7,a8⟩:=Qrj h
 exact⟨a1,hm,a3,a4,a5,a6,a7,hg⟩
def mx (s:Qaa):Int:=if s.Mass>1 then s.Mass else 1
def Q16 (s:Qaa) (m:Int):Qaa:=⟨m,s.Heat*m/mx s,s.Silica*m/mx s,s.Gas*m/mx s⟩
def Qh2 (s:Qaa) (ws:List Int):List Qaa:=(Qjk s.Mass ws).map (Q16 s)
def Qmb (s:Qaa) (ws:List Int):Qnp:=⟨s.Heat-(totS (Qh2 s ws)).Heat,s.Silica-(totS (Qh2 s ws)).Silica,s.Gas-(totS (Qh2 s ws)).Gas⟩
theorem Qz3 (s:Qaa):0<mx s:=by unfold mx;split<;>omega
theorem Zk1 {s:Qaa}(h:0≤s.Mass):s.Mass≤mx s:=by unfold mx;split<;>omega
theorem Za2 {n m c:Int}{s:Qaa}(hM:0≤s.Mass) (hm:0≤m) (hn:n≤c*s.Mass) (hc:0≤c):n*m/mx s≤c*m:=by
 have h1:n*m≤c*s.Mass*m:=Int.mul_le_mul_of_nonneg_right hn hm
 have h2:c*s.Mass*m≤c*m*mx s:=by
  rw[Int.mul_assoc,Int.mul_assoc,Int.mul_comm s.Mass m]
  exact Int.mul_le_mul_of_nonneg_left (Int.mul_le_mul_of_nonneg_left (Zk1 hM) hm) hc
 exact Int.ediv_le_of_le_mul (Qz3 s) (Int.le_trans h1 h2)
theorem Qxz {n m:Int}{s:Qaa}(hM:0≤s.Mass) (hm:0≤m) (hmM:m≤s.Mass) (hn:0≤n):0≤n*m/mx s∧n*m/mx s≤n:=by
 have hp:=Qz3 s
 refine⟨Int.ediv_nonneg (Int.mul_nonneg hn hm) (by omega),Int.ediv_le_of_le_mul hp ?_⟩
 have:=Zk1 hM
 exact Int.mul_le_mul_of_nonneg_left (by omega) hn
theorem Ze5 {s:Qaa}(hs:StrV s) {m:Int}(h0:0≤m) (h1:m≤s.Mass):StrV (Q16 s m):=by
 obtain⟨a1,a2,a3,a4,a5,a6,a7,a8⟩:=hs
 have b1:=Qxz a1 h0 h1 a3
 have b2:=Za2 a1 h0 a4 (by omega)
 have b3:=Qxz a1 h0 h1 a5
 have b4:=Za2 a1 h0 a6 (by omega)
 have b5:=Qxz a1 h0 h1 a7
 exact⟨h0,by dsimp only[Q16];omega,b1.1,b2,b3.1,b4,b5.1,by dsimp only[Q16];omega⟩
theorem Q4n {n:Int}{s:Qaa}(hn:0≤n):∀(l:List Int),(∀m∈l,0≤m)→mx s*(l.map fun m=>n*m/mx s).sum≤n*l.sum
 |[],_=>by simp
 |m::l,h=>by
  have h1:=Q4n (n:=n) (s:=s) hn l fun x hx=>h x (List.mem_cons_of_mem _ hx)
  have hp:=Qz3 s
  have h2:=Int.mul_ediv_self_le (x:=n*m) (k:=mx s) (by omega)
  simp only[List.map_cons,List.sum_cons,Int.mul_add]
  omega
theorem Qxy {n:Int}{s:Qaa}(hn:0≤n) (hM:0≤s.Mass) {l:List Int}(h:∀m∈l,0≤m) (hl:l.sum=s.Mass):(l.map fun m=>n*m/mx s).sum≤n:=by
 have h1:=Q4n (s:=s) hn l h
 have hp:=Qz3 s
 rw[hl] at h1
 have h2:n*s.Mass≤n*mx s:=Int.mul_le_mul_of_nonneg_left (Zk1 hM) hn
 rw[Int.mul_comm n (mx s)] at h2
 exact Int.le_of_mul_le_mul_left (Int.le_trans h1 h2) hp
theorem Q6g (s:Qaa) (l:List Int):totS (l.map (Q16 s))=⟨l.sum,(l.map fun m=>s.Heat*m/mx s).sum,(l.map fun m=>s.Silica*m/mx s).sum,(l.map fun m=>s.Gas*m/mx s).sum⟩:=by
 simp[totS,Q16,Function.comp_def]
structure Zq8 (s:Qaa) (o:List Qaa) (l:Qnp):Prop where
 v:∀x∈o,StrV x
 m:(totS o).Mass=s.Mass
 h:(totS o).Heat+l.Heat=s.Heat
 q:(totS o).Silica+l.Silica=s.Silica
 g:(totS o).Gas+l.Gas=s.Gas
 h0:0≤l.Heat
 q0:0≤l.Silica
 g0:0≤l.Gas
theorem Qmr {s:Qaa}(hs:StrV s) {ws:List Int}(h:WtsV ws):Zq8 s (Qh2 s ws) (Qmb s ws):=by
 have hs':=hs
 obtain⟨a1,a2,a3,a4,a5,a6,a7,a8⟩:=hs'
 have hsum:=Quk h a1 a2
 have hbd:=Qwg h a1 a2
 have hnn:∀m∈Qjk s.Mass ws,0≤m:=fun m hm=>(hbd m hm).1
 have e:totS (Qh2 s ws)=_:=Q6g s (Qjk s.Mass ws)
 have t1:=Qxy (n:=s.Heat) (s:=s) a3 a1 hnn hsum
 have t2:=Qxy (n:=s.Silica) (s:=s) a5 a1 hnn hsum
 have t3:=Qxy (n:=s.Gas) (s:=s) a7 a1 hnn hsum
 refine⟨fun x hx=>?_,?_,?_,?_,?_,?_,?_,?_⟩
 ·obtain⟨m,hm,rfl⟩:=List.mem_map.1 hx
  exact Ze5 hs (hbd m hm).1 (hbd m hm).2
 ·rw[e];exact hsum
 all_goals (simp only[Qmb,e];omega)
section
variable {N : Nat} {s : Qaa} {ws : List Int} (hs : StrV s) (h : WtsV ws) (hN : 1001 ≤ N)
include hs in
theorem Za8 {n m:Int}(hn:0≤n) (hn':n≤10000000000) (h0:0≤m) (h1:m≤s.Mass) (a b c:Int):Qfs N n m s.Mass a b c=some (n*m/mx s):=by
 have hM:=hs.m1
 have hM0:=hs.m0
 have hp:=bdp hn hn' h0 (show m≤1000000 by omega) (by omega)
 have hb:=Qxz hM0 h0 h1 hn
 have hx:=Qz3 s
 unfold Qfs
 show chk (mx s != 0) ((some (w64 ((w64 (n*m)).tdiv (mx s)))).bind fun x2=>some x2)=_
 rw[show(mx s != 0)=true by rw[bne_iff_ne];omega,Qcg (x:=n*m) (by omega) (by omega),Int.tdiv_eq_ediv_of_nonneg hp.1,Qcg (by omega) (by omega)]
 rfl
include hs in
theorem Q6u (k:List Qaa→Option (List Qaa×Qnp×Int)) (l:List Int) (hl:l.length≤20) (hb:∀m∈l,0≤m∧m≤s.Mass):∀(n i:Nat) (acc:List Qaa),(l.drop i).length<n→acc.length=i →
  Qem N s k l n acc i=k (acc++(l.drop i).map (Q16 s)):=by
 intro n
 induction n with
 |zero=>intro i _ h;cases h
 |succ n ih=>
  intro i acc h ha
  rw[Qem]
  cases hd:l.drop i with
  |nil=>
   have:=Qb2 hd
   simp[show ¬((i:Int)<l.length) from by omega]
  |cons m q=>
   obtain⟨hg,hd',hlt⟩:=Qbp hd
   obtain⟨m0,m1⟩:=hb m (List.mem_of_getElem? hg)
   have a1:=hs.m1
   simp only[dlI hlt,cond_true,Qb1 hg,Option.bind_some,Za8 (N:=N) hs hs.h0 (by have:=hs.h1;omega) m0 m1,Za8 (N:=N) hs hs.s0 (by have:=hs.s1;omega) m0 m1,Za8 (N:=N) hs hs.g0 (by have:=hs.g1;omega) m0 m1,chk]
   have hc:decide ((acc.length+[(⟨m,s.Heat*m/mx s,s.Silica*m/mx s,s.Gas*m/mx s⟩:Qaa)].length)*32≤140737488355328)=true:=by simp;omega
   rw[hc,cond_true,w64S (i:=i) (by omega),
    ih (i+1) _ (dlt hd hd' h) (by simp[ha]),hd',List.append_assoc]
   rfl
include h hN in
theorem Q9y:Qhn N ws=some true∧Qcq N ws=some true:=by
 have hl:=h.l2
 have hc:Qc5 N ws=some (ws.any fun x=>!btw x 0 1000):=by
  unfold Qc5 Qep Qbl
  refine Qi3 (F:=Qca N ws fun _=>some (-1)) (k:=fun _=>some (-1)) (q:=Qgp N) (fun n y=>rfl) (fun x=>?_) rfl (by omega) (by omega)
  simp only[Qgp,Qj2,Qmf,Option.bind_some]
 constructor
 ·unfold Qhn
  rw[hc,Option.bind_some,Qvk]
  congr 1
  exact List.all_eq_true.2 fun x hx=>Qgj.2 (h.w x hx)
 ·have:Qcq N ws=some (ws.any fun x=>decide (x>0)):=by
   unfold Qcq Qeo Qbl
   exact Qi3 (F:=Qb9 N ws fun _=>some (-1)) (k:=fun _=>some (-1)) (q:=Qj1 N) (fun n y=>rfl) (fun x=>rfl) rfl (by omega) (by omega)
  rw[this]
  congr 1
  obtain⟨x,hx,hp⟩:=h.some
  exact List.any_eq_true.2 ⟨x,hx,by simpa using hp⟩
include hs h hN in
theorem Zex:Qj6 N s ws=some (Qh2 s ws,Qmb s ws,0):=by
 have hl:=h.l2
 obtain⟨w1,w2⟩:=Q9y h hN
 have hK:=Qmr hs h
 have hlen:(Qh2 s ws).length=ws.length:=by unfold Qh2;rw[List.length_map,Qh5]
 unfold Qj6
 simp only[Qbl,Qxh,Qol.2 hs,Option.bind_some,Bool.not_true,cond_false,w1,w2,show decide ((ws.length:Int)>20)=false from by simp;omega,Zbl h hs.m0 hs.m1 hN]
 refine(Q6u hs _ (Qjk s.Mass ws) (by rw[Qh5];exact hl) (Qwg h hs.m0 hs.m1) N 0 [] (by rw[List.drop_zero,Qh5];omega) rfl).trans ?_
 rw[List.drop_zero,List.nil_append]
 show(Qk5 N (Qh2 s ws)).bind _=_
 rw[Zkh (by omega) hN,Option.bind_some,Qtl hK.v (by omega)]
 obtain⟨_,k1,k2,k3,k4,k5,k6,k7⟩:=hK
 have g1:=hs.h1
 have g2:=hs.s1
 have g3:=hs.g1
 have g4:=hs.m1
 have v:=Qrj (Qmr hs h).v
 have:=v.h0
 have:=v.s0
 have:=v.g0
 unfold Qmb at *
 dsimp only at *
 rw[Qcg (x:=s.Heat-_) (by omega) (by omega),Qcg (x:=s.Silica-_) (by omega) (by omega),Qcg (x:=s.Gas-_) (by omega) (by omega)]
 rfl
end
end
section
open Go.RowKit
def pq (p:Qbk):Int×Int:=(p.Element,p.Outlet)
def Q4k (els:List Qae) (i:Nat) (lv:Int) (u:List (Int×Int)) (p:Qbk):Bool:=
 btw p.Element 0 ((i:Int)-1)&&(match getI els p.Element with |some y=>btw p.Outlet 0 (outl y-1)&&decide (lv≤y.Level) |none=>false)&&!u.contains (pq p)
def Qje (els:List Qae) (i:Nat) (lv:Int):List (Int×Int)→List Qbk→Bool
 |_,[]=>true
 |u,p::l=>Q4k els i lv u p&&Qje els i lv (u++[pq p]) l
def Qu0 (n:Int) (els:List Qae):Nat→List (Int×Int)→List Qae→Bool
 |_,_,[]=>true
 |i,u,x::l=>btw x.Level 0 (n-1)&&Qje els i x.Level u x.From&&Qu0 n els (i+1) (u++x.From.map pq) l
def netB (n:GNet):Bool:=tabB n.Table&&btw n.Elements.length 1 16&&n.Elements.all Qih&&Qu0 n.Table.length n.Elements 0 [] n.Elements
structure Qib (n:GNet):Prop where
 t:n.Table.length≤25
 e:n.Elements.length≤18
 x:∀x∈n.Elements,x.From.length≤25∧x.Weights.length≤25
theorem Za4 {x:Qae}(h:x.Weights.length≤25):0≤outl x∧outl x≤25:=by
 unfold outl
 split
 ·omega
 ·split<;>omega
theorem Zbv {els:List Qae}{a:Int}{i:Nat}(h:btw a 0 ((i:Int)-1)=true) (hi:i≤els.length):∃y,getI els a=some y∧y∈els:=by
 obtain⟨h1,h2⟩:=Qgj.1 h
 have hlt:a.toNat<els.length:=by omega
 exact⟨els[a.toNat],by unfold getI;rw[if_pos h1,List.getElem?_eq_getElem hlt],List.getElem_mem hlt⟩
section
variable {N : Nat} {n : GNet} (hs : Qib n) (hN : 1001 ≤ N)
include hs hN
omit hN in
theorem Q6s {i:Nat}(hi:i<n.Elements.length) {x:Qae}(hx:x.From.length≤25) (k:List (Int×Int)→Option Bool):∀(m j:Nat) (u:List (Int×Int)),(x.From.drop j).length<m →
  Qdr N n i k x m j u=bif Qje n.Elements i x.Level u (x.From.drop j) then k (u++(x.From.drop j).map pq) else some false:=by
 intro m
 induction m with
 |zero=>intro j _ h;cases h
 |succ m ih=>
  intro j u h
  rw[Qdr]
  cases hd:x.From.drop j with
  |nil=>
   have:=Qb2 hd
   simp[show ¬((j:Int)<x.From.length) from by omega,Qje]
  |cons p l=>
   obtain⟨hg,hd',hlt⟩:=Qbp hd
   have e0:=hs.e
   simp only[dlI hlt,cond_true,Qb1 hg,Option.bind_some,Qjt,Qje,Q4k]
   rw[Qcg (x:=(i:Int)-1) (by omega) (by omega)]
   cases hb:btw p.Element 0 ((i:Int)-1) with
   |false=>rfl
   |true=>
    obtain⟨y,hy,hym⟩:=Zbv hb (Nat.le_of_lt hi)
    obtain⟨o0,o1⟩:=Za4 (hs.x y hym).2
    simp only[Bool.not_true,cond_false,hy,Option.bind_some,Zku,Bool.true_and]
    rw[Qcg (x:=outl y-1) (by omega) (by omega)]
    cases hc:btw p.Outlet 0 (outl y-1) with
    |false=>rfl
    |true=>
     simp only[Bool.not_true,cond_false,Bool.true_and]
     show(bif u.contains (pq p) then some false else _)=_
     cases hu:u.contains (pq p) with
     |true=>simp
     |false=>
      simp only[cond_false,Bool.not_false,Bool.and_true]
      by_cases hl:x.Level>y.Level
      ·rw[decide_eq_true hl,decide_eq_false (by omega)];rfl
      ·rw[decide_eq_false hl,decide_eq_true (by omega),cond_false,w64S (i:=j) (by omega),
        ih (j+1) _ (dlt hd hd' h),hd']
       have ea:addQ u (p.Element,p.Outlet)=u++[pq p]:=by
        unfold addQ
        rw[show u.contains (p.Element,p.Outlet)=false from hu];rfl
       rw[ea,Bool.true_and,List.map_cons,List.append_assoc]
       rfl
theorem Zcm (k:Unit→Option Bool):∀(m i:Nat) (u:List (Int×Int)),(n.Elements.drop i).length<m →
  Qc9 N n k m i u=bif Qu0 n.Table.length n.Elements i u (n.Elements.drop i) then k () else some false:=by
 intro m
 induction m with
 |zero=>intro i _ h;cases h
 |succ m ih=>
  intro i u h
  rw[Qc9]
  cases hd:n.Elements.drop i with
  |nil=>
   have:=Qb2 hd
   simp[show ¬((i:Int)<n.Elements.length) from by omega,Qu0]
  |cons x l=>
   obtain⟨hg,hd',hlt⟩:=Qbp hd
   have e0:=hs.e
   have e1:=hs.t
   have hx:=hs.x x (List.mem_of_getElem? hg)
   simp only[dlI hlt,cond_true,Qbl,Qb1 hg,Option.bind_some,Qjt,Qu0]
   rw[Qcg (x:=(n.Table.length:Int)-1) (by omega) (by omega)]
   cases hb:btw x.Level 0 ((n.Table.length:Int)-1) with
   |false=>rfl
   |true=>
    have:=Q6s (N:=N) hs hlt hx.1 (fun y9=>Qc9 N n k m (w64 ((i:Int)+1)) y9) N 0 u (by simp;omega)
    rw[List.drop_zero] at this
    simp only[Bool.not_true,cond_false,Bool.true_and]
    refine this.trans ?_
    cases Qje n.Elements i x.Level u x.From with
    |false=>rfl
    |true=>
     rw[cond_true,w64S (i:=i) (by omega),ih (i+1) _ (dlt hd hd' h),hd',Bool.true_and]
theorem Zmg:Qef N n.Elements=some (n.Elements.all Qih):=by
 have e0:=hs.e
 have hc:Qbo N n.Elements=some (n.Elements.any fun x=>!Qih x):=by
  unfold Qbo Qb8 Qbl
  have gen:∀(m j:Nat),(n.Elements.drop j).length<m→(Qa4 N n.Elements (fun _=>some (-1)) m j).bind (fun x=>some (decide (x≥0)))=some ((n.Elements.drop j).any fun x=>!Qih x):=by
   intro m
   induction m with
   |zero=>intro j h;cases h
   |succ m ih=>
    intro j h
    rw[Qa4]
    cases hd:n.Elements.drop j with
    |nil=>
     have:=Qb2 hd
     simp[show ¬((j:Int)<n.Elements.length) from by omega]
    |cons x l=>
     obtain⟨hg,hd',hlt⟩:=Qbp hd
     have hx:=hs.x x (List.mem_of_getElem? hg)
     simp only[dlI hlt,cond_true,Qb1 hg,Option.bind_some,Qe5,Zdh (show x.Weights.length≤1000 by omega) hN,List.any_cons]
     cases Qih x with
     |false=>simp
     |true=>
      rw[Bool.not_true,cond_false,w64S (i:=j) (by omega),ih (j+1) (dlt hd hd' h),hd',Bool.false_or]
  have:=gen N 0 (by simp;omega)
  rw[List.drop_zero] at this
  exact this
 unfold Qef
 rw[hc,Option.bind_some,Qvk]
theorem Qx1:Qex N n=some (netB n):=by
 have e0:=hs.e
 have e1:=hs.t
 unfold Qex netB Qic
 simp only[Qbl,Qy7 (show n.Table.length≤1000 by omega) hN,Option.bind_some,Qjt,Zmg hs hN]
 cases tabB n.Table with
 |false=>rfl
 |true=>
  simp only[Bool.not_true,cond_false,Option.bind_some,Bool.true_and,show((0:Int) != 0)=false from rfl]
  cases btw n.Elements.length 1 16 with
  |false=>rfl
  |true=>
   cases n.Elements.all Qih with
   |false=>rfl
   |true=>
    have:=Zcm hs hN (fun _=>some true) N 0 [] (by simp;omega)
    rw[List.drop_zero] at this
    simp only[Bool.not_true,cond_false,Bool.true_and]
    refine this.trans ?_
    cases Qu0 n.Table.length n.Elements 0 [] n.Elements<;>rfl
omit hs in
theorem Zhg {l:List Qbk}(hl:l.length≤1000) (p:Qbk):Qkf N l p=some ((l.map pq).contains (pq p)):=by
 unfold Qkf
 simp only[Qbl]
 have gen:∀(m j:Nat),(l.drop j).length<m→Qet N l (fun _=>some false) p m j=some (((l.drop j).map pq).contains (pq p)):=by
  intro m
  induction m with
  |zero=>intro j h;cases h
  |succ m ih=>
   intro j h
   rw[Qet]
   cases hd:l.drop j with
   |nil=>
    have:=Qb2 hd
    simp[show ¬((j:Int)<l.length) from by omega]
   |cons x q=>
    obtain⟨hg,hd',hlt⟩:=Qbp hd
    have hx:(([x.Element,x.Outlet]:List Int)==[p.Element,p.Outlet])=(pq p==pq x):=by
     by_cases h1:x.Element=p.Element
     ·by_cases h2:x.Outlet=p.Outlet
      ·rw[h1,h2,beq_self_eq_true];simp[pq,h1,h2]
      ·rw[beq_eq_false_iff_ne.2 (by simp[h2]),beq_eq_false_iff_ne.2 (by simp only[pq,ne_eq,Prod.mk.injEq];omega)]
     ·rw[beq_eq_false_iff_ne.2 (by simp[h1]),beq_eq_false_iff_ne.2 (by simp only[pq,ne_eq,Prod.mk.injEq];omega)]
    simp only[dlI hlt,cond_true,Qb1 hg,Option.bind_some,hx,List.map_cons,List.contains_cons]
    cases (pq p==pq x) with
    |true=>rfl
    |false=>rw[cond_false,w64S (i:=j) (by omega),ih (j+1) (dlt hd hd' h),hd',Bool.false_or]
 have:=gen N 0 (by simp;omega)
 rw[List.drop_zero] at this
 exact this
theorem Q6r {i:Nat}(hi:i<n.Elements.length) {x:Qae}(hx:x.From.length≤25) (k:List Qbk→Option Bool):∀(m j:Nat) (u:List Qbk),(x.From.drop j).length<m→u.length≤25*i+j →
  Qeu N n i k x m u j=bif Qje n.Elements i x.Level (u.map pq) (x.From.drop j) then k (u++x.From.drop j) else some false:=by
 intro m
 induction m with
 |zero=>intro j _ h;cases h
 |succ m ih=>
  intro j u h hu
  rw[Qeu]
  cases hd:x.From.drop j with
  |nil=>
   have:=Qb2 hd
   simp[show ¬((j:Int)<x.From.length) from by omega,Qje]
  |cons p l=>
   obtain⟨hg,hd',hlt⟩:=Qbp hd
   have e0:=hs.e
   simp only[dlI hlt,cond_true,Qb1 hg,Option.bind_some,Q2d,Qje,Q4k]
   rw[Qcg (x:=(i:Int)-1) (by omega) (by omega)]
   cases hb:btw p.Element 0 ((i:Int)-1) with
   |false=>rfl
   |true=>
    obtain⟨y,hy,hym⟩:=Zbv hb (Nat.le_of_lt hi)
    obtain⟨o0,o1⟩:=Za4 (hs.x y hym).2
    simp only[Bool.not_true,cond_false,hy,Option.bind_some,Zkt,Bool.true_and]
    rw[Qcg (x:=outl y-1) (by omega) (by omega)]
    cases hc:btw p.Outlet 0 (outl y-1) with
    |false=>rfl
    |true=>
     simp only[Bool.not_true,cond_false,Bool.true_and]
     by_cases hl:x.Level>y.Level
     ·rw[decide_eq_true hl,decide_eq_false (show ¬x.Level≤y.Level by omega)];rfl
     ·rw[decide_eq_false hl,decide_eq_true (show x.Level≤y.Level by omega),cond_false,Zhg hN (by omega),Option.bind_some]
      cases hu':(u.map pq).contains (pq p) with
      |true=>simp
      |false=>
       simp only[cond_false,chk]
       rw[show decide ((u.length+[p].length)*16≤140737488355328)=true by simp;omega,cond_true,w64S (i:=j) (by omega),
        ih (j+1) _ (dlt hd hd' h) (by simp;omega),hd',List.map_append,List.append_assoc]
       rfl
def elsR (t:Int) (els:List Qae):Nat→List (Int×Int)→List Qae→Bool
 |_,_,[]=>true
 |i,u,x::l=>Qih x&&btw x.Level 0 (t-1)&&Qje els i x.Level u x.From&&elsR t els (i+1) (u++x.From.map pq) l
omit hs hN in
theorem Zcl (t:Int) (els:List Qae):∀(l:List Qae) (i:Nat) (u:List (Int×Int)),elsR t els i u l=(l.all Qih&&Qu0 t els i u l)
 |[],_,_=>rfl
 |x::l,i,u=>by
  rw[elsR,Zcl t els l,Qu0,List.all_cons]
  cases Qih x<;>cases btw x.Level 0 (t-1)<;>cases Qje els i x.Level u x.From<;>cases l.all Qih<;>rfl
theorem Zck (k:Unit→Option Bool):∀(m i:Nat) (u:List Qbk),(n.Elements.drop i).length<m→u.length≤25*i →
  Qd1 N n k m u i=bif elsR n.Table.length n.Elements i (u.map pq) (n.Elements.drop i) then k () else some false:=by
 intro m
 induction m with
 |zero=>intro i _ h;cases h
 |succ m ih=>
  intro i u h hu
  rw[Qd1]
  cases hd:n.Elements.drop i with
  |nil=>
   have:=Qb2 hd
   simp[show ¬((i:Int)<n.Elements.length) from by omega,elsR]
  |cons x l=>
   obtain⟨hg,hd',hlt⟩:=Qbp hd
   have e0:=hs.e
   have e1:=hs.t
   have hx:=hs.x x (List.mem_of_getElem? hg)
   simp only[dlI hlt,cond_true,Qbl,Qb1 hg,Option.bind_some,Zdg (show x.Weights.length≤1000 by omega) hN,Q2d,elsR]
   rw[Qcg (x:=(n.Table.length:Int)-1) (by omega) (by omega)]
   cases Qih x with
   |false=>rfl
   |true=>
    cases hb:btw x.Level 0 ((n.Table.length:Int)-1) with
    |false=>rfl
    |true=>
     have:=Q6r hs hN hlt hx.1 (fun y9=>Qd1 N n k m y9 (w64 ((i:Int)+1))) N 0 u (by simp;omega) (by omega)
     rw[List.drop_zero] at this
     simp only[Bool.not_true,cond_false,Bool.true_and]
     refine this.trans ?_
     cases Qje n.Elements i x.Level (u.map pq) x.From with
     |false=>rfl
     |true=>
      rw[cond_true,w64S (i:=i) (by omega),ih (i+1) _ (dlt hd hd' h) (by simp;omega),hd',Bool.true_and,List.map_append]
theorem Zk0:Qkh N n=some (netB n):=by
 have e0:=hs.e
 have e1:=hs.t
 unfold Qkh netB
 simp only[Qbl,Zau (show n.Table.length≤9223372036854775807 by omega) (show n.Table.length<N by omega),Option.bind_some]
 cases tabB n.Table with
 |false=>rfl
 |true=>
  simp only[Bool.not_true,cond_false,Bool.true_and]
  by_cases h1:(n.Elements.length:Int)<1
  ·rw[decide_eq_true h1,show btw n.Elements.length 1 16=false by unfold btw;rw[decide_eq_false (by omega)];rfl];rfl
  ·by_cases h2:(n.Elements.length:Int)>16
   ·rw[decide_eq_false h1,decide_eq_true h2,show btw n.Elements.length 1 16=false by unfold btw;rw[decide_eq_false (show ¬(n.Elements.length:Int)≤16 by omega),Bool.and_false]];rfl
   ·rw[decide_eq_false h1,decide_eq_false h2,Qgj.2 ⟨by omega,by omega⟩]
    have:=Zck hs hN (fun _=>some true) N 0 [] (by simp;omega) (by simp)
    rw[List.drop_zero] at this
    simp only[cond_false,Bool.true_and]
    refine this.trans ?_
    rw[Zcl]
    cases n.Elements.all Qih<;>cases h:Qu0 n.Table.length n.Elements 0 [] n.Elements<;>simp[h]
end
theorem Zfj (N:Nat) (n:GNet) (k:Unit→Option Bool) (hl:(n.Elements.length:Int)≤9223372036854775807):∀(m i:Nat),(n.Elements.drop i).length<m →
  Qfw N n k m i=bif (n.Elements.drop i).all (fun x=>decide (x.From.length≤25)&&decide (x.Weights.length≤25)) then k () else some false:=by
 intro m
 induction m with
 |zero=>intro i h;cases h
 |succ m ih=>
  intro i h
  rw[Qfw]
  cases hd:n.Elements.drop i with
  |nil=>
   have:=Qb2 hd
   simp[show ¬((i:Int)<n.Elements.length) from by omega]
  |cons x l=>
   obtain⟨hg,hd',hlt⟩:=Qbp hd
   simp only[dlI hlt,cond_true,Qb1 hg,Option.bind_some,List.all_cons]
   by_cases h1:(x.From.length:Int)>25
   ·rw[decide_eq_true h1,decide_eq_false (show ¬x.From.length≤25 by omega)];rfl
   ·by_cases h2:(x.Weights.length:Int)>25
    ·rw[decide_eq_false h1,decide_eq_true h2,decide_eq_false (show ¬x.Weights.length≤25 by omega)];simp
    ·rw[decide_eq_false h1,decide_eq_false h2,decide_eq_true (show x.From.length≤25 by omega),decide_eq_true (show x.Weights.length≤25 by omega),cond_false,cond_false,w64S (i:=i) (by omega),ih (i+1) (dlt hd hd' h),hd']
     rfl
theorem Zoz {N:Nat}{n:GNet}{ws:List Qaa}(hl:(n.Elements.length:Int)≤9223372036854775807) (hN:n.Elements.length<N):(Qk7 N n ws=some false)∨(Qk7 N n ws=some true∧Qib n∧ws.length≤25):=by
 unfold Qk7
 simp only[Qbl]
 have:=Zfj N n (fun _=>bif (decide ((n.Elements.length:Int)≤18)) then bif (decide ((n.Table.length:Int)≤25)) then some (decide ((ws.length:Int)≤25)) else some false else some false) hl N 0 (by simpa using hN)
 rw[List.drop_zero,show((0:Nat):Int)=0 from rfl] at this
 rw[this]
 cases ha:n.Elements.all (fun x=>decide (x.From.length≤25)&&decide (x.Weights.length≤25)) with
 |false=>exact .inl rfl
 |true=>
  rw[cond_true]
  by_cases h1:(n.Elements.length:Int)≤18
  ·by_cases h2:(n.Table.length:Int)≤25
   ·by_cases h3:(ws.length:Int)≤25
    ·refine .inr ⟨by rw[decide_eq_true h1,decide_eq_true h2,decide_eq_true h3];rfl,⟨by omega,by omega,fun x hx=>?_⟩,by omega⟩
     have:=List.all_eq_true.1 ha x hx
     simpa using this
    ·exact .inl (by rw[decide_eq_true h1,decide_eq_true h2,decide_eq_false h3];rfl)
   ·exact .inl (by rw[decide_eq_true h1,decide_eq_false h2];rfl)
  ·exact .inl (by rw[decide_eq_false h1];rfl)
theorem Zbf (N:Nat) (x:Qae) (k:List Qae×List Qbk×List Int→Option GNet) (hl:x.From.length≤1000) (a:List Qae) (w:List Int):∀(m j:Nat) (acc:List Qbk),(x.From.drop j).length<m→acc.length=j →
  Qfu N x k m j a acc w=k (a,acc++x.From.drop j,w):=by
 intro m
 induction m with
 |zero=>intro j _ h;cases h
 |succ m ih=>
  intro j acc h ha
  rw[Qfu]
  cases hd:x.From.drop j with
  |nil=>
   have:=Qb2 hd
   simp[show ¬((j:Int)<x.From.length) from by omega]
  |cons p l=>
   obtain⟨hg,hd',hlt⟩:=Qbp hd
   simp only[dlI hlt,cond_true,Qb1 hg,Option.bind_some,chk]
   rw[show decide ((acc.length+[p].length)*16≤140737488355328)=true by simp;omega,cond_true,w64S (i:=j) (by omega),
    ih (j+1) _ (dlt hd hd' h) (by simp[ha]),hd',List.append_assoc]
   rfl
theorem Zfc {N:Nat}{n:GNet}(hs:Qib n) (hN:1001≤N) (k:List Qae→Option GNet):∀(m i:Nat) (acc:List Qae),(n.Elements.drop i).length<m→acc.length=i →
  Qfv N n k m i acc=k (acc++n.Elements.drop i):=by
 intro m
 induction m with
 |zero=>intro i _ h;cases h
 |succ m ih=>
  intro i acc h ha
  rw[Qfv]
  cases hd:n.Elements.drop i with
  |nil=>
   have:=Qb2 hd
   simp[show ¬((i:Int)<n.Elements.length) from by omega]
  |cons x l=>
   obtain⟨hg,hd',hlt⟩:=Qbp hd
   have e0:=hs.e
   have hx:=hs.x x (List.mem_of_getElem? hg)
   simp only[dlI hlt,cond_true,Qb1 hg,Option.bind_some,chk,Qbl]
   rw[show decide ((([]:List Int).length+x.Weights.length)*8≤140737488355328)=true by simp;omega,cond_true]
   refine(Zbf N x _ (by omega) acc ([]++x.Weights) N 0 [] (by simp;omega) rfl).trans ?_
   dsimp only
   rw[List.drop_zero,List.nil_append,List.nil_append,show decide ((acc.length+[(⟨x.Kind,x.From,x.Level,x.Amount,x.Wide,x.Narrow,x.Weights⟩:Qae)].length)*88≤140737488355328)=true by simp;omega,cond_true,w64S (i:=i) (by omega),
    ih (i+1) _ (dlt hd hd' h) (by simp[ha]),hd',List.append_assoc]
   rfl
theorem Zbe {N:Nat}{n:GNet}(hs:Qib n) (hN:1001≤N):Qi1 N n=some n:=by
 have e0:=hs.e
 have e1:=hs.t
 unfold Qi1
 rw[Zeq (by omega) hN,Option.bind_some,Qbl]
 refine(Zfc hs hN _ N 0 [] (by simp;omega) rfl).trans ?_
 rw[List.drop_zero,List.nil_append]
theorem Qum (N:Nat) {l:List Int}(hl:l.length≤1000):Qgz N l=some l:=by
 unfold Qgz chk
 rw[show decide ((([]:List Int).length+l.length)*8≤140737488355328)=true by simp;omega,cond_true,List.nil_append]
end
section
open Go.RowKit
def Qpv {α:Type}(i:Nat):Nat→List α→List ((Int×Int)×α)
 |_,[]=>[]
 |j,a::l=>(((i:Int),(j:Int)),a)::Qpv i (j+1) l
def Qh8 {α:Type}:Nat→List (List α)→List ((Int×Int)×α)
 |_,[]=>[]
 |i,r::o=>Qpv i 0 r++Qh8 (i+1) o
def Qhs {α:Type}(f:α→Int) (U:List (Int×Int)) (l:List ((Int×Int)×α)):Int:=((l.filter fun x=>!U.contains x.1).map fun x=>f x.2).sum
section
variable {α : Type}
theorem Qqu {i:Nat}{a b:Int}{s:α}:∀{l:List α}{j:Nat},((a,b),s)∈Qpv i j l↔a=i∧(j:Int)≤b∧l[(b-j).toNat]? = some s
 |[],j=>by simp[Qpv]
 |x::l,j=>by
  rw[Qpv,List.mem_cons,Qqu (l:=l) (j:=j+1)]
  constructor
  ·rintro (h |⟨h1,h2,h3⟩)
   ·simp only[Prod.mk.injEq] at h
    obtain⟨⟨rfl,rfl⟩,rfl⟩:=h
    exact⟨rfl,Int.le_refl _,by simp⟩
   ·refine⟨h1,by omega,?_⟩
    rw[show(b-(j:Int)).toNat=(b-((j+1:Nat):Int)).toNat+1 by omega]
    simpa using h3
  ·rintro ⟨h1,h2,h3⟩
   by_cases e:b=j
   ·subst e;subst h1
    simp at h3
    exact .inl (by rw[h3])
   ·refine .inr ⟨h1,by omega,?_⟩
    rw[show(b-(j:Int)).toNat=(b-((j+1:Nat):Int)).toNat+1 by omega] at h3
    simpa using h3
theorem Qn8 {a b:Int}{s:α}:∀{o:List (List α)}{i:Nat},((a,b),s)∈Qh8 i o↔(i:Int)≤a∧0≤b∧∃r,o[(a-i).toNat]? = some r∧r[b.toNat]? = some s
 |[],i=>by simp[Qh8]
 |r::o,i=>by
  rw[Qh8,List.mem_append,Qqu,Qn8 (o:=o) (i:=i+1)]
  constructor
  ·rintro (⟨rfl,h2,h3⟩ |⟨h1,h2,q,h3,h4⟩)
   ·exact⟨Int.le_refl _,by omega,r,by simp,by simpa using h3⟩
   ·refine⟨by omega,h2,q,?_,h4⟩
    rw[show(a-(i:Int)).toNat=(a-((i+1:Nat):Int)).toNat+1 by omega]
    simpa using h3
  ·rintro ⟨h1,h2,q,h3,h4⟩
   by_cases e:a=i
   ·subst e
    simp at h3
    subst h3
    exact .inl ⟨rfl,by omega,by simpa using h4⟩
   ·refine .inr ⟨by omega,h2,q,?_,h4⟩
    rw[show(a-(i:Int)).toNat=(a-((i+1:Nat):Int)).toNat+1 by omega] at h3
    simpa using h3
theorem Quw {i:Nat}:∀(l:List α) (j:Nat),((Qpv i j l).map fun x=>x.1).Nodup
 |[],j=>by simp[Qpv]
 |x::l,j=>by
  rw[Qpv,List.map_cons,List.nodup_cons]
  refine⟨fun h=>?_,Quw l (j+1)⟩
  obtain⟨⟨⟨a,b⟩,s⟩,h1,h2⟩:=List.mem_map.1 h
  have:=(Qqu.1 h1).2.1
  simp only[Prod.mk.injEq] at h2
  omega
theorem Qux:∀(o:List (List α)) (i:Nat),((Qh8 i o).map fun x=>x.1).Nodup
 |[],i=>by simp[Qh8]
 |r::o,i=>by
  rw[Qh8,List.map_append,List.nodup_append]
  refine⟨Quw r 0,Qux o (i+1),fun x hx y hy=>?_⟩
  obtain⟨⟨⟨a,b⟩,s⟩,h1,rfl⟩:=List.mem_map.1 hx
  obtain⟨⟨⟨a',b'⟩,s'⟩,h2,rfl⟩:=List.mem_map.1 hy
  have h3:=(Qqu.1 h1).1
  have h4:=(Qn8.1 h2).1
  intro e
  simp only[Prod.mk.injEq] at e
  omega
theorem Qsd:∀(o o':List (List α)) (i:Nat),Qh8 i (o++o')=Qh8 i o++Qh8 (i+o.length) o'
 |[],o',i=>by simp[Qh8]
 |r::o,o',i=>by
  rw[List.cons_append,Qh8,Qsd o o' (i+1),Qh8,List.append_assoc,List.length_cons,show i+1+o.length=i+(o.length+1) by omega]
theorem Qzx (f:α→Int) (U:List (Int×Int)) (l l':List ((Int×Int)×α)):Qhs f U (l++l')=Qhs f U l+Qhs f U l':=by
 simp[Qhs,List.filter_append]
theorem Quf {f:α→Int}{U V:List (Int×Int)}{l:List ((Int×Int)×α)}(h:∀x∈l,(x.1∈U↔x.1∈V)):Qhs f U l=Qhs f V l:=by
 unfold Qhs
 have:(l.filter fun x=>!U.contains x.1)=l.filter fun x=>!V.contains x.1:=List.filter_congr fun x hx=>by
  have:=h x hx
  by_cases h1:x.1∈U
  ·have h2:=this.1 h1
   simp[h1,h2]
  ·have h2:¬x.1∈V:=fun h=>h1 (this.2 h)
   simp[h1,h2]
 rw[this]
theorem Qwe (f:α→Int) {U:List (Int×Int)}{p:Int×Int}{s:α}:∀{l:List ((Int×Int)×α)},(l.map fun x=>x.1).Nodup→(p,s)∈l→p∉U→Qhs f (p::U) l=Qhs f U l-f s
 |[],_,h,_=>by simp at h
 |x::l,hn,h,hp=>by
  rw[List.map_cons,List.nodup_cons] at hn
  have e:∀V,Qhs f V (x::l)=(if x.1∈V then 0 else f x.2)+Qhs f V l:=fun V=>by
   unfold Qhs
   by_cases hv:x.1∈V<;>simp[hv]
  rw[e,e]
  rcases List.mem_cons.1 h with h |h
  ·subst h
   rw[if_pos (by simp),if_neg hp]
   have:Qhs f (p::U) l=Qhs f U l:=Quf fun y hy=>by
    rw[List.mem_cons]
    refine⟨fun h=>h.resolve_left fun e=>hn.1 ?_,.inr⟩
    rw[←e]
    exact List.mem_map.2 ⟨y,hy,rfl⟩
   rw[this]
   dsimp only
   omega
  ·rw[Qwe f hn.2 h hp]
   have hx:x.1≠p:=fun e=>hn.1 (by rw[e];exact List.mem_map.2 ⟨_,h,rfl⟩)
   have:(x.1∈p::U)↔x.1∈U:=by simp[hx]
   by_cases hv:x.1∈U
   ·rw[if_pos (this.2 hv),if_pos hv];omega
   ·rw[if_neg (fun h=>hv (this.1 h)),if_neg hv];omega
theorem Que (f:α→Int) {l:List ((Int×Int)×α)}(hl:(l.map fun x=>x.1).Nodup):∀(P:List (Int×Int)) (S:List α) (U:List (Int×Int)),P.length=S.length→(∀(i:Nat) p s,P[i]? = some p→S[i]? = some s→(p,s)∈l)→P.Nodup→(∀p∈P,p∉U) →
  Qhs f (P++U) l=Qhs f U l-(S.map f).sum
 |[],[],U,_,_,_,_=>by simp
 |p::P,s::S,U,hlen,hm,hn,hu=>by
  rw[List.nodup_cons] at hn
  have h1:=Que f hl P S U (by simpa using hlen) (fun i q t h1 h2=>hm (i+1) q t (by simpa using h1) (by simpa using h2)) hn.2 fun q hq=>hu q (List.mem_cons_of_mem _ hq)
  rw[List.cons_append,Qwe f hl (hm 0 p s rfl rfl),h1]
  ·simp only[List.map_cons,List.sum_cons];omega
  ·intro h
   rcases List.mem_append.1 h with h |h
   ·exact hn.1 h
   ·exact hu p List.mem_cons_self h
 |[],_::_,_,h,_,_,_=>by simp at h
 |_::_,[],_,h,_,_,_=>by simp at h
theorem Qzw (f:α→Int) {U:List (Int×Int)}{i:Nat}(hU:∀p∈U,p.1≠i):∀(r:List α) (j:Nat),Qhs f U (Qpv i j r)=(r.map f).sum
 |[],j=>rfl
 |x::r,j=>by
  have hx:((i:Int),(j:Int))∉U:=fun h=>hU _ h rfl
  have:Qhs f U (Qpv i j (x::r))=f x+Qhs f U (Qpv i (j+1) r):=by
   unfold Qhs
   rw[Qpv,List.filter_cons,if_pos (by simpa using hx),List.map_cons,List.sum_cons]
  rw[this,Qzw f hU r (j+1),List.map_cons,List.sum_cons]
theorem Qsa {f:α→Int}{U:List (Int×Int)}:∀{l:List ((Int×Int)×α)},(∀x∈l,0≤f x.2)→0≤Qhs f U l
 |[],_=>by simp[Qhs]
 |x::l,h=>by
  have h1:=Qsa (U:=U) fun y hy=>h y (List.mem_cons_of_mem x hy)
  have h2:=h x List.mem_cons_self
  unfold Qhs at h1 ⊢
  rw[List.filter_cons]
  split
  ·rw[List.map_cons,List.sum_cons];omega
  ·exact h1
theorem Q0f (i:Nat) (r:List α):Qh8 i [r]=Qpv i 0 r:=by simp[Qh8]
end
end
section
open Go.RowKit
structure NetV (n:GNet):Prop where
 tab:tabB n.Table=true
 len:1≤n.Elements.length∧n.Elements.length≤16
 alone:∀x∈n.Elements,Qih x=true
 level:∀x∈n.Elements,0≤x.Level∧x.Level≤(n.Table.length:Int)-1
 port:∀(i:Nat) x p,n.Elements[i]? = some x→p∈x.From→0≤p.Element∧p.Element<i∧∃y,n.Elements[p.Element.toNat]? = some y∧0≤p.Outlet∧p.Outlet<outl y∧x.Level≤y.Level
 dist:(n.Elements.flatMap fun x=>x.From.map pq).Nodup
theorem Qt6 {els:List Qae}{i:Nat}{lv:Int}:∀{l:List Qbk}{u:List (Int×Int)},Qje els i lv u l=true→u.Nodup →
  (u++l.map pq).Nodup∧∀p∈l,0≤p.Element∧p.Element<i∧∃y,els[p.Element.toNat]? = some y∧0≤p.Outlet∧p.Outlet<outl y∧lv≤y.Level
 |[],u,_,hu=>⟨by simpa using hu,by simp⟩
 |p::l,u,h,hu=>by
  rw[Qje,Bool.and_eq_true] at h
  obtain⟨h1,h2⟩:=h
  rw[Q4k,Bool.and_eq_true,Bool.and_eq_true] at h1
  obtain⟨⟨h3,h4⟩,h5⟩:=h1
  have hn:pq p∉u:=by simpa using h5
  have hu':(u++[pq p]).Nodup:=by
   rw[List.nodup_append]
   exact⟨hu,by simp,fun a ha b hb=>by simp at hb;subst hb;exact fun e=>hn (e▸ha)⟩
  obtain⟨k1,k2⟩:=Qt6 h2 hu'
  refine⟨by rw[List.map_cons];rw[List.append_assoc] at k1;exact k1,fun q hq=>?_⟩
  rcases List.mem_cons.1 hq with rfl |hq
  ·obtain⟨b1,b2⟩:=Qgj.1 h3
   cases hg:getI els q.Element with
   |none=>rw[hg] at h4;cases h4
   |some y=>
    rw[hg] at h4
    simp only[Bool.and_eq_true,decide_eq_true_eq] at h4
    obtain⟨c1,c2⟩:=Qgj.1 h4.1
    exact⟨b1,by omega,y,(Q0b hg).2,c1,by omega,h4.2⟩
  ·exact k2 q hq
theorem Q0g {t:Int}{els:List Qae}:∀{l:List Qae}{i:Nat}{u:List (Int×Int)},Qu0 t els i u l=true→u.Nodup →
  (u++l.flatMap fun x=>x.From.map pq).Nodup∧(∀x∈l,0≤x.Level∧x.Level≤t-1)∧∀(j:Nat) x p,l[j]? = some x→p∈x.From→0≤p.Element∧p.Element<(i:Int)+j∧∃y,els[p.Element.toNat]? = some y∧0≤p.Outlet∧p.Outlet<outl y∧x.Level≤y.Level
 |[],i,u,_,hu=>⟨by simpa using hu,by simp,fun j x p h=>by simp at h⟩
 |x::l,i,u,h,hu=>by
  rw[Qu0,Bool.and_eq_true,Bool.and_eq_true] at h
  obtain⟨⟨h1,h2⟩,h3⟩:=h
  obtain⟨k1,k2⟩:=Qt6 h2 hu
  obtain⟨m1,m2,m3⟩:=Q0g h3 k1
  refine⟨by rw[List.flatMap_cons];rw[List.append_assoc] at m1;exact m1,fun y hy=>?_,fun j y p hj hp=>?_⟩
  ·rcases List.mem_cons.1 hy with rfl |hy
   ·exact Qgj.1 h1
   ·exact m2 y hy
  ·cases j with
   |zero=>
    simp at hj
    subst hj
    obtain⟨a,b,c⟩:=k2 p hp
    exact⟨a,by omega,c⟩
   |succ j=>
    obtain⟨a,b,c⟩:=m3 j y p (by simpa using hj) hp
    exact⟨a,by omega,c⟩
theorem Qm5 {n:GNet}(h:netB n=true):NetV n:=by
 unfold netB at h
 simp only[Bool.and_eq_true] at h
 obtain⟨⟨⟨h1,h2⟩,h3⟩,h4⟩:=h
 obtain⟨k1,k2,k3⟩:=Q0g h4 List.nodup_nil
 have:=Qgj.1 h2
 exact⟨h1,⟨by omega,by omega⟩,fun x hx=>List.all_eq_true.1 h3 x hx,k2,fun i x p hi hp=>by
  obtain⟨a,b,c⟩:=k3 i x p hi hp
  exact⟨a,by omega,c⟩,by simpa using k1⟩
def Qzr:Nat→List Qae→List Qbk
 |_,[]=>[]
 |i,x::l=>(List.range (outl x).toNat).map (fun k:Nat=>(⟨(i:Int),(k:Int)⟩:Qbk))++Qzr (i+1) l
def Zpx (n:GNet):List (Int×Int):=n.Elements.flatMap fun x=>x.From.map pq
def Zl0 (n:GNet):List Qbk:=(Qzr 0 n.Elements).filter fun p=>!(Zpx n).contains (pq p)
section
variable {N : Nat} {n : GNet} (hs : Qib n) (hv : NetV n) (hN : 1001 ≤ N)
include hs hN in
include hs hv hN in
include hs hN in
include hs hv hN in
end
def stB (n:GNet) (s:List Int):Bool:=decide (s.length=n.Elements.length)&&s.all fun x=>btw x 0 1000000000000
theorem Qzd {N:Nat}{n:GNet}(hs:Qib n) (hN:1001≤N) {s:List Int}(hl:s.length≤1000):Qiy N n s=some (bif netB n&&stB n s then 0 else 1):=by
 have hc:Qc6 N s=some (s.any fun x=>!btw x 0 1000000000000):=by
  unfold Qc6 Qeq Qbl
  refine Qi3 (F:=Qcb N s fun _=>some (-1)) (k:=fun _=>some (-1)) (q:=Qg9 N) (fun n y=>rfl) (fun x=>?_) rfl (by omega) (by omega)
  simp only[Qg9,Qj3,Qjt,Option.bind_some]
 unfold Qiy Qjg stB
 rw[Qx1 hs hN,hc]
 simp only[Option.bind_some,Qvk]
 cases netB n with
 |false=>rfl
 |true=>
  by_cases h1:s.length=n.Elements.length
  ·rw[decide_eq_true h1,show((s.length:Int) != (n.Elements.length:Int))=false by rw[bne_eq_false_iff_eq];omega]
   cases s.all fun x=>btw x 0 1000000000000<;>rfl
  ·rw[decide_eq_false h1,show((s.length:Int) != (n.Elements.length:Int))=true by rw[bne_iff_ne];omega];rfl
def widI (x:Qae) (d:Int):Int:=if x.Wide-d/x.Narrow>0 then x.Wide-d/x.Narrow else 0
theorem Zn9 {x:Qae}(hx:Qih x=true) {d:Int}(h0:0≤d) (h1:d≤9000000000000000000):(x.Narrow != 0)=true∧d.tdiv x.Narrow=d/x.Narrow∧0≤d/x.Narrow∧d/x.Narrow≤d∧w64 (d/x.Narrow)=d/x.Narrow∧w64 (x.Wide-d/x.Narrow)=x.Wide-d/x.Narrow∧0≤x.Wide∧x.Wide≤1000000∧1≤x.Narrow:=by
 unfold Qih at hx
 simp only[Bool.and_eq_true] at hx
 obtain⟨⟨⟨⟨⟨_,hw⟩,hn⟩,_⟩,_⟩,_⟩:=hx
 obtain⟨w0,w1⟩:=Qgj.1 hw
 obtain⟨n0,n1⟩:=Qgj.1 hn
 have a:=Int.ediv_nonneg h0 (show 0≤x.Narrow by omega)
 have b:=Int.ediv_le_self x.Narrow h0
 exact⟨by rw[bne_iff_ne];omega,Int.tdiv_eq_ediv_of_nonneg h0,a,b,Qcg (by omega) (by omega),Qcg (by omega) (by omega),w0,w1,n0⟩
theorem Q9z (N:Nat) {x:Qae}(hx:Qih x=true) {d:Int}(h0:0≤d) (h1:d≤9000000000000000000):Qgg N x d=some (widI x d):=by
 obtain⟨a,b,c,e,f,g,_⟩:=Zn9 hx h0 h1
 unfold Qgg widI
 rw[a,b,f,g]
 rfl
end
section
open Go.RowKit
def zs:Qaa:=⟨0,0,0,0⟩
def Qhz (t:List GRow) (l:Int):GRow:=(getI t l).getD ⟨0,0,0,0,0⟩
def Qsu (x:Qae) (s:Qaa):Int:=if s.Heat<x.Amount then s.Heat else x.Amount
def actE (t:List GRow) (x:Qae) (s:Qaa):List Qaa×Qbg×Int:=
 if x.Kind=3 then([⟨s.Mass,s.Heat-Qsu x s,s.Silica,s.Gas⟩],⟨Qsu x s,0,0,0⟩,0)
 else if x.Kind=4 then
  if x.Amount=0 then([(flG (Qhz t x.Level) s).Steam,(flG (Qhz t x.Level) s).Water],⟨0,0,0,(flG (Qhz t x.Level) s).Scale⟩,(flG (Qhz t x.Level) s).Steam.Mass)
  else([totS [(flG (Qhz t x.Level) s).Steam,(Qh2 (flG (Qhz t x.Level) s).Water [1000-x.Amount,x.Amount]).getD 1 zs],(Qh2 (flG (Qhz t x.Level) s).Water [1000-x.Amount,x.Amount]).getD 0 zs],
   ⟨(Qmb (flG (Qhz t x.Level) s).Water [1000-x.Amount,x.Amount]).Heat,(Qmb (flG (Qhz t x.Level) s).Water [1000-x.Amount,x.Amount]).Silica,(Qmb (flG (Qhz t x.Level) s).Water [1000-x.Amount,x.Amount]).Gas,(flG (Qhz t x.Level) s).Scale⟩,(flG (Qhz t x.Level) s).Steam.Mass)
 else if x.Kind=5 then(Qh2 s x.Weights,⟨(Qmb s x.Weights).Heat,(Qmb s x.Weights).Silica,(Qmb s x.Weights).Gas,0⟩,0)
 else([s],⟨0,0,0,0⟩,0)
structure Zmi (x:Qae) (s:Qaa) (a:List Qaa×Qbg×Int):Prop where
 v:∀y∈a.1,StrV y
 len:(a.1.length:Int)=outl x
 m:(totS a.1).Mass=s.Mass
 h:(totS a.1).Heat+a.2.1.Heat=s.Heat
 q:(totS a.1).Silica+a.2.1.Silica+a.2.1.Scale=s.Silica
 g:(totS a.1).Gas+a.2.1.Gas=s.Gas
 h0:0≤a.2.1.Heat
 q0:0≤a.2.1.Silica
 g0:0≤a.2.1.Gas
 c0:0≤a.2.1.Scale
 t0:0≤a.2.2
 t1:a.2.2≤1000000
structure Zi5 (x:Qae):Prop where
 k:1≤x.Kind∧x.Kind≤6
 well:x.Kind=1→x.From=[]
 a3:x.Kind=3→0≤x.Amount
 a4:x.Kind=4→0≤x.Amount∧x.Amount≤1000
 w5:x.Kind=5→WtsV x.Weights
theorem Qrb {x:Qae}(h:Qih x=true):Zi5 x:=by
 unfold Qih at h
 simp only[Bool.and_eq_true] at h
 obtain⟨⟨⟨⟨⟨h1,_⟩,_⟩,h4⟩,h5⟩,h6⟩:=h
 refine⟨Qgj.1 h1,fun e=>?_,fun e=>?_,fun e=>?_,fun e=>?_⟩
 ·rw[e] at h4
  obtain⟨_,h7⟩:=Qgj.1 h4
  rw[if_pos rfl] at h7
  exact List.length_eq_zero_iff.1 (by omega)
 ·rw[e] at h5
  have:=Qgj.1 h5
  exact this.1
 ·rw[e] at h5
  have:=Qgj.1 h5
  simpa using this
 ·rw[e] at h6
  exact Zj4 (by simpa using h6)
theorem Q95 {a:Int}(h0:0<a) (h1:a≤1000):WtsV [1000-a,a]:=
 ⟨by simp,by simp,fun x hx=>by simp at hx;rcases hx with rfl |rfl<;>omega,⟨a,by simp,h0⟩⟩
theorem Qzb {s:Qaa}{a b:Int}:∃p q,Qh2 s [a,b]=[p,q]:=by
 have:(Qh2 s [a,b]).length=2:=by unfold Qh2;rw[List.length_map,Qh5];rfl
 match h:Qh2 s [a,b],this with
 |[p,q],_=>exact⟨p,q,rfl⟩
theorem Q5y {t:List GRow}(ht:tabB t=true) {x:Qae}(hx:Zi5 x) (hl:0≤x.Level∧x.Level≤(t.length:Int)-1) {s:Qaa}(hs:StrV s):Zmi x s (actE t x s):=by
 have hs':=hs
 obtain⟨a1,a2,a3,a4,a5,a6,a7,a8⟩:=hs'
 unfold actE
 by_cases h3:x.Kind=3
 ·rw[if_pos h3]
  have hc:0≤Qsu x s∧Qsu x s≤s.Heat:=by
   have:=hx.a3 h3
   unfold Qsu;split<;>omega
  refine⟨fun y hy=>?_,?_,?_,?_,?_,?_,?_,?_,?_,?_,?_,?_⟩
  ·simp at hy;subst hy
   exact⟨a1,a2,by dsimp only;omega,by dsimp only;omega,a5,a6,a7,a8⟩
  ·simp[outl,h3]
  all_goals (try rw[Qmz])
  all_goals (dsimp only;omega)
 ·rw[if_neg h3]
  by_cases h4:x.Kind=4
  ·rw[if_pos h4]
   have hrow:=(Zap ht (Qgj.2 hl)).2
   have hk:=Q45 (r:=Qhz t x.Level) hrow hs
   generalize flG (Qhz t x.Level) s=p at hk
   obtain⟨k1,k2,k3,k4,k5,k6,k7,k8⟩:=hk
   have k1':=k1
   obtain⟨b1,b2,b3,b4,b5,b6,b7,b8⟩:=k1'
   have k2':=k2
   obtain⟨c1,c2,c3,c4,c5,c6,c7,c8⟩:=k2'
   by_cases h0:x.Amount=0
   ·rw[if_pos h0]
    refine⟨fun y hy=>?_,?_,?_,?_,?_,?_,?_,?_,?_,?_,?_,?_⟩
    ·simp at hy;rcases hy with rfl |rfl<;>assumption
    ·simp[outl,h4]
    all_goals (try rw[Qnw,Qmz])
    all_goals (dsimp only;omega)
   ·rw[if_neg h0]
    have ha:=hx.a4 h4
    have hw:=Q95 (a:=x.Amount) (by omega) ha.2
    obtain⟨u,v,hp⟩:=Qzb (s:=p.Water) (a:=1000-x.Amount) (b:=x.Amount)
    have hK:=Qmr k2 hw
    rw[hp] at hK ⊢
    simp only[show([u,v]:List Qaa).getD 1 zs=v from rfl,show([u,v]:List Qaa).getD 0 zs=u from rfl]
    generalize Qmb p.Water [1000-x.Amount,x.Amount]=L at hK ⊢
    obtain⟨d0,d1,d2,d3,d4,d5,d6,d7⟩:=hK
    have hu:=d0 u (by simp)
    have hv:=d0 v (by simp)
    rw[Qnw,Qmz] at d1 d2 d3 d4
    dsimp only at d1 d2 d3 d4
    obtain⟨e1,e2,e3,e4,e5,e6,e7,e8⟩:=hu
    obtain⟨f1,f2,f3,f4,f5,f6,f7,f8⟩:=hv
    have et:totS [p.Steam,v]=⟨p.Steam.Mass+v.Mass,p.Steam.Heat+v.Heat,p.Steam.Silica+v.Silica,p.Steam.Gas+v.Gas⟩:=by rw[Qnw,Qmz]
    rw[et]
    refine⟨fun y hy=>?_,?_,?_,?_,?_,?_,?_,?_,?_,?_,?_,?_⟩
    ·simp at hy
     rcases hy with rfl |rfl
     ·refine⟨?_,?_,?_,?_,?_,?_,?_,?_⟩<;>dsimp only<;>omega
     ·exact⟨e1,e2,e3,e4,e5,e6,e7,e8⟩
    ·simp[outl,h4]
    all_goals (try rw[Qnw,Qmz])
    all_goals (dsimp only;omega)
  ·rw[if_neg h4]
   by_cases h5:x.Kind=5
   ·rw[if_pos h5]
    have hw:=hx.w5 h5
    have hK:=Qmr hs hw
    have hlen:(Qh2 s x.Weights).length=x.Weights.length:=by unfold Qh2;rw[List.length_map,Qh5]
    generalize Qh2 s x.Weights=o at hK hlen ⊢
    generalize Qmb s x.Weights=L at hK ⊢
    obtain⟨d0,d1,d2,d3,d4,d5,d6,d7⟩:=hK
    refine⟨d0,by simp[outl,h5,hlen],d1,d2,?_,d4,d5,d6,d7,?_,?_,?_⟩<;>dsimp only<;>omega
   ·rw[if_neg h5]
    refine⟨fun y hy=>?_,?_,?_,?_,?_,?_,?_,?_,?_,?_,?_,?_⟩
    ·simp at hy;subst hy;exact hs
    ·simp[outl,h4,h5]
    all_goals (try rw[Qmz])
    all_goals (dsimp only;omega)
def Qhw (o:List (List Qaa)) (p:Qbk):Qaa:=((o.getD p.Element.toNat []).getD p.Outlet.toNat zs)
def insE (o:List (List Qaa)) (ws:List Qaa) (x:Qae):List Qaa:=if x.Kind=1 then ws.take 1 else x.From.map (Qhw o)
def Qtn (t:List GRow):List (Qae×Int)→List Qaa→List (List Qaa)→List Qbg→List Int→Int→Nat⊕(List (List Qaa)×List Qbg×List Int×Int)
 |[],_,o,ls,ss,y=>.inr (o,ls,ss,y)
 |(x,d)::l,ws,o,ls,ss,y=>
  if (totS (insE o ws x)).Mass>widI x d then .inl o.length
  else Qtn t l (if x.Kind=1 then ws.drop 1 else ws) (o++[(actE t x (totS (insE o ws x))).1]) (ls++[(actE t x (totS (insE o ws x))).2.1]) (ss++[d+(actE t x (totS (insE o ws x))).2.1.Scale]) (y+(actE t x (totS (insE o ws x))).2.2)
def Qjr (n:GNet) (i:Nat):List (Int×Int):=(n.Elements.take i).flatMap fun x=>x.From.map pq
def wcn (n:GNet) (i:Nat):Nat:=((n.Elements.take i).filter fun x=>decide (x.Kind=1)).length
structure FedV (n:GNet) (ws:List Qaa):Prop where
 len:ws.length=wcn n n.Elements.length
 v:∀s∈ws,StrV s
 m:(totS ws).Mass≤1000000
 g:(totS ws).Gas≤1000000000
structure InvT (n:GNet) (ws:List Qaa) (i:Nat) (o:List (List Qaa)) (ls:List Qbg):Prop where
 lo:o.length=i
 ll:ls.length=i
 rows:∀(k:Nat) y r,n.Elements[k]? = some y→o[k]? = some r→(r.length:Int)=outl y
 v:∀r∈o,∀s∈r,StrV s
 m:Qhs (fun s=>s.Mass) (Qjr n i) (Qh8 0 o)=(totS (ws.take (wcn n i))).Mass
 h:Qhs (fun s=>s.Heat) (Qjr n i) (Qh8 0 o)+(ls.map fun l=>l.Heat).sum=(totS (ws.take (wcn n i))).Heat
 q:Qhs (fun s=>s.Silica) (Qjr n i) (Qh8 0 o)+(ls.map fun l=>l.Silica).sum+(ls.map fun l=>l.Scale).sum=(totS (ws.take (wcn n i))).Silica
 g:Qhs (fun s=>s.Gas) (Qjr n i) (Qh8 0 o)+(ls.map fun l=>l.Gas).sum=(totS (ws.take (wcn n i))).Gas
 l0:∀l∈ls,0≤l.Heat∧0≤l.Silica∧0≤l.Gas∧0≤l.Scale
theorem Q0a (n:GNet) (ws:List Qaa):InvT n ws 0 [] []:=
 ⟨rfl,rfl,fun k y r _ h=>by simp at h,fun r h=>by simp at h,by simp[Qhs,Qh8,wcn,totS],by simp[Qhs,Qh8,wcn,totS],by simp[Qhs,Qh8,wcn,totS],by simp[Qhs,Qh8,wcn,totS],fun l h=>by simp at h⟩
theorem Ql0 {α:Type}{l:List α}{i:Nat}{x:α}(h:l[i]? = some x):l.take (i+1)=l.take i++[x]:=by rw[List.take_add_one,h];rfl
theorem Q1t {n:GNet}{i:Nat}{x:Qae}(h:n.Elements[i]? = some x):Qjr n (i+1)=Qjr n i++x.From.map pq:=by
 unfold Qjr
 rw[Ql0 h,List.flatMap_append]
 simp
theorem Qoi {n:GNet}{i:Nat}{x:Qae}(h:n.Elements[i]? = some x):wcn n (i+1)=wcn n i+if x.Kind=1 then 1 else 0:=by
 unfold wcn
 rw[Ql0 h,List.filter_append,List.length_append]
 by_cases hk:x.Kind=1<;>simp[hk]
theorem Q92 {n:GNet}{i:Nat}:wcn n i≤wcn n n.Elements.length:=by
 unfold wcn
 rw[List.take_length]
 exact((List.take_sublist i n.Elements).filter _).length_le
section
variable {n : GNet} (hv : NetV n) {ws : List Qaa} (hf : FedV n ws) {i : Nat} {o : List (List Qaa)} {ls : List Qbg} (hI : InvT n ws i o ls) {x : Qae} (hx : n.Elements[i]? = some x)
include hv hI hx in
theorem Qrq {p:Qbk}(hp:p∈x.From):(pq p,Qhw o p)∈Qh8 0 o∧StrV (Qhw o p)∧(∃r,o[p.Element.toNat]? = some r∧r[p.Outlet.toNat]? = some (Qhw o p)):=by
 obtain⟨h1,h2,y,h3,h4,h5,_⟩:=hv.port i x p hx hp
 have hlt:p.Element.toNat<o.length:=by rw[hI.lo];omega
 have hr:o[p.Element.toNat]? = some (o[p.Element.toNat]):=List.getElem?_eq_getElem hlt
 have hl:=hI.rows _ y _ h3 hr
 have hlt2:p.Outlet.toNat<(o[p.Element.toNat]).length:=by omega
 have hs:(o[p.Element.toNat])[p.Outlet.toNat]? = some ((o[p.Element.toNat])[p.Outlet.toNat]):=List.getElem?_eq_getElem hlt2
 have e:Qhw o p=(o[p.Element.toNat])[p.Outlet.toNat]:=by
  unfold Qhw
  rw[List.getD_eq_getElem?_getD,List.getD_eq_getElem?_getD,hr,Option.getD_some,hs,Option.getD_some]
 rw[e]
 refine⟨Qn8.2 ⟨by simpa using h1,h4,_,?_,hs⟩,hI.v _ (List.getElem_mem hlt) _ (List.getElem_mem hlt2),_,hr,hs⟩
 rw[show(p.Element-((0:Nat):Int)).toNat=p.Element.toNat by simp]
 exact hr
include hv hx in
theorem Q61:(x.From.map pq).Nodup∧∀p∈x.From.map pq,p∉Qjr n i:=by
 have hd:=hv.dist
 have hi:=(List.getElem?_eq_some_iff.1 hx).1
 have e:n.Elements=n.Elements.take i++x::n.Elements.drop (i+1):=by
  rw[←List.take_append_drop i n.Elements]
  congr 1
  ·simp
  ·rw[List.take_append_drop,List.drop_eq_getElem_cons hi]
   rw[List.getElem?_eq_getElem hi] at hx
   cases hx
   rfl
 rw[e,List.flatMap_append,List.flatMap_cons,List.nodup_append,List.nodup_append] at hd
 obtain⟨_,⟨h2,_,_⟩,h3⟩:=hd
 exact⟨h2,fun p hp hu=>h3 p hu p (List.mem_append_left _ hp) rfl⟩
include hv hI hx in
theorem Qtp (f:Qaa→Int):Qhs f (Qjr n (i+1)) (Qh8 0 o)=Qhs f (Qjr n i) (Qh8 0 o)-((x.From.map (Qhw o)).map f).sum:=by
 obtain⟨h1,h2⟩:=Q61 hv hx
 rw[Q1t hx,Quf (V:=x.From.map pq++Qjr n i) (fun y _=>by simp[or_comm])]
 refine Que f (Qux o 0) _ _ _ (by simp) (fun j p s hp hs=>?_) h1 h2
 rw[List.getElem?_map,Option.map_eq_some_iff] at hp hs
 obtain⟨a,ha,rfl⟩:=hp
 obtain⟨b,hb,rfl⟩:=hs
 rw[ha] at hb
 cases hb
 exact(Qrq hv hI hx (List.mem_of_getElem? ha)).1
include hv in
theorem Zfb (f:Qaa→Int) (r:List Qaa) (hlo:o.length=i):Qhs f (Qjr n (i+1)) (Qh8 0 (o++[r]))=Qhs f (Qjr n (i+1)) (Qh8 0 o)+(r.map f).sum:=by
 rw[Qsd,Qzx,Nat.zero_add,hlo,Q0f]
 congr 1
 refine Qzw f (fun p hp=>?_) r 0
 unfold Qjr at hp
 obtain⟨y,hy,hp⟩:=List.mem_flatMap.1 hp
 obtain⟨q,hq,rfl⟩:=List.mem_map.1 hp
 obtain⟨k,hk,e⟩:=List.mem_take_iff_getElem.1 hy
 have:=(hv.port k y q (by rw[←e];exact List.getElem?_eq_getElem (by omega)) hq).2.1
 intro he
 have:(pq q).1=q.Element:=rfl
 omega
include hI in
theorem Za7 (f:Qaa→Int) (hf0:∀s,StrV s→0≤f s) (U:List (Int×Int)):0≤Qhs f U (Qh8 0 o):=by
 refine Qsa fun y hy=>?_
 obtain⟨⟨a,b⟩,s⟩:=y
 obtain⟨_,_,r,h1,h2⟩:=Qn8.1 hy
 exact hf0 _ (hI.v r (List.mem_of_getElem? h1) s (List.mem_of_getElem? h2))
include hf in
theorem Q4c (k:Nat):(totS (ws.take k)).Mass≤1000000∧(totS (ws.take k)).Gas≤1000000000:=by
 have h:=Q1u (ws.take k) (ws.drop k)
 rw[List.take_append_drop] at h
 have hm:=hf.m
 have hg:=hf.g
 rw[h] at hm hg
 have hd:=Qrj fun s hs=>hf.v s (List.mem_of_mem_drop (i:=k) hs)
 have:=hd.m0
 have:=hd.g0
 dsimp only at hm hg
 omega
theorem Qo7 {α:Type}(f:α→Int):∀(l:List α),(∀x∈l,0≤f x)→0≤(l.map f).sum
 |[],_=>by simp
 |x::l,h=>by
  have h1:=Qo7 f l fun y hy=>h y (List.mem_cons_of_mem x hy)
  have h2:=h x List.mem_cons_self
  simp only[List.map_cons,List.sum_cons]
  omega
include hv hf hI hx in
theorem Zi0:(∀s∈insE o (ws.drop (wcn n i)) x,StrV s)∧StrV (totS (insE o (ws.drop (wcn n i)) x)):=by
 have hxm:=List.mem_of_getElem? hx
 by_cases h1:x.Kind=1
 ·have e:insE o (ws.drop (wcn n i)) x=(ws.drop (wcn n i)).take 1:=by unfold insE;rw[if_pos h1]
  rw[e]
  have hw:=Qoi hx
  rw[if_pos h1] at hw
  have hle:=Q92 (n:=n) (i:=i+1)
  have hlt:wcn n i<ws.length:=by rw[hf.len];omega
  rw[List.drop_eq_getElem_cons hlt]
  have hs:=hf.v _ (List.getElem_mem hlt)
  rw[List.take_succ_cons,List.take_zero,Qmz]
  exact⟨fun s h=>by rw[List.mem_singleton] at h;rw[h];exact hs,hs⟩
 ·have e:insE o (ws.drop (wcn n i)) x=x.From.map (Qhw o):=by unfold insE;rw[if_neg h1]
  rw[e]
  have hall:∀s∈x.From.map (Qhw o),StrV s:=fun s hs=>by
   obtain⟨p,hp,rfl⟩:=List.mem_map.1 hs
   exact(Qrq hv hI hx hp).2.1
  refine⟨hall,Zeo hall ?_ ?_⟩
  ·have h2:=Qtp hv hI hx (fun s=>s.Mass)
   have h3:=Za7 hI (fun s=>s.Mass) (fun s hs=>hs.m0) (Qjr n (i+1))
   have h4:=(Q4c hf (wcn n i)).1
   rw[←hI.m] at h4
   show((x.From.map (Qhw o)).map fun s=>s.Mass).sum≤_
   omega
  ·have h2:=Qtp hv hI hx (fun s=>s.Gas)
   have h3:=Za7 hI (fun s=>s.Gas) (fun s hs=>hs.g0) (Qjr n (i+1))
   have h4:=(Q4c hf (wcn n i)).2
   have h5:=Qo7 (fun l:Qbg=>l.Gas) ls fun l hl=>(hI.l0 l hl).2.2.1
   rw[←hI.g] at h4
   show((x.From.map (Qhw o)).map fun s=>s.Gas).sum≤_
   omega
include hv hf hI hx in
theorem Qs1 (f:Qaa→Int) (hf1:∀l m:List Qaa,((l++m).map f).sum=(l.map f).sum+(m.map f).sum) (r:List Qaa) :
  Qhs f (Qjr n (i+1)) (Qh8 0 (o++[r]))=Qhs f (Qjr n i) (Qh8 0 o)+((ws.take (wcn n (i+1))).map f).sum-((ws.take (wcn n i)).map f).sum-((insE o (ws.drop (wcn n i)) x).map f).sum+(r.map f).sum:=by
 rw[Zfb hv f r hI.lo,Qtp hv hI hx f]
 by_cases h1:x.Kind=1
 ·have e:insE o (ws.drop (wcn n i)) x=(ws.drop (wcn n i)).take 1:=by unfold insE;rw[if_pos h1]
  have hw:=Qoi hx
  rw[if_pos h1] at hw
  have hle:=Q92 (n:=n) (i:=i+1)
  have hlt:wcn n i<ws.length:=by rw[hf.len];omega
  have hfr:=(Qrb (hv.alone x (List.mem_of_getElem? hx))).well h1
  rw[e,hfr,hw,Ql0 (List.getElem?_eq_getElem hlt),hf1,List.drop_eq_getElem_cons hlt]
  simp only[List.map_nil,List.sum_nil,List.take_succ_cons,List.take_zero,List.map_cons,List.sum_cons]
  omega
 ·have e:insE o (ws.drop (wcn n i)) x=x.From.map (Qhw o):=by unfold insE;rw[if_neg h1]
  have hw:=Qoi hx
  rw[if_neg h1] at hw
  rw[e,hw,Nat.add_zero]
  omega
include hv hf hI hx in
theorem Q4y {a:List Qaa×Qbg×Int}(ha:Zmi x (totS (insE o (ws.drop (wcn n i)) x)) a):InvT n ws (i+1) (o++[a.1]) (ls++[a.2.1]):=by
 obtain⟨k1,k2,k3,k4,k5,k6,k7,k8,k9,k10,_,_⟩:=ha
 have sa:∀f:Qaa→Int,∀l m:List Qaa,((l++m).map f).sum=(l.map f).sum+(m.map f).sum:=fun f l m=>by simp
 refine⟨by simp[hI.lo],by simp[hI.ll],fun k y r hy hr=>?_,fun r hr s hs=>?_,?_,?_,?_,?_,fun l hl=>?_⟩
 ·by_cases hk:k<i
  ·rw[List.getElem?_append_left (by rw[hI.lo];exact hk)] at hr
   exact hI.rows k y r hy hr
  ·rw[List.getElem?_append_right (by rw[hI.lo];omega),hI.lo] at hr
   have:k=i:=by
    have:=(List.getElem?_eq_some_iff.1 hr).1
    simp at this
    omega
   subst this
   rw[hx] at hy
   cases hy
   simp at hr
   subst hr
   exact k2
 ·rcases List.mem_append.1 hr with hr |hr
  ·exact hI.v r hr s hs
  ·simp at hr;subst hr;exact k1 s hs
 ·rw[Qs1 hv hf hI hx _ (sa _),hI.m]
  have e1:(a.1.map fun s=>s.Mass).sum=(totS a.1).Mass:=rfl
  have e2:((insE o (ws.drop (wcn n i)) x).map fun s=>s.Mass).sum=(totS (insE o (ws.drop (wcn n i)) x)).Mass:=rfl
  have e3:∀k,((ws.take k).map fun s=>s.Mass).sum=(totS (ws.take k)).Mass:=fun _=>rfl
  rw[e1,e2,e3,e3]
  omega
 ·rw[Qs1 hv hf hI hx _ (sa _)]
  have e1:(a.1.map fun s=>s.Heat).sum=(totS a.1).Heat:=rfl
  have e2:((insE o (ws.drop (wcn n i)) x).map fun s=>s.Heat).sum=(totS (insE o (ws.drop (wcn n i)) x)).Heat:=rfl
  have e3:∀k,((ws.take k).map fun s=>s.Heat).sum=(totS (ws.take k)).Heat:=fun _=>rfl
  have h:=hI.h
  rw[e1,e2,e3,e3,List.map_append,List.sum_append]
  simp only[List.map_cons,List.map_nil,List.sum_cons,List.sum_nil]
  omega
 ·rw[Qs1 hv hf hI hx _ (sa _)]
  have e1:(a.1.map fun s=>s.Silica).sum=(totS a.1).Silica:=rfl
  have e2:((insE o (ws.drop (wcn n i)) x).map fun s=>s.Silica).sum=(totS (insE o (ws.drop (wcn n i)) x)).Silica:=rfl
  have e3:∀k,((ws.take k).map fun s=>s.Silica).sum=(totS (ws.take k)).Silica:=fun _=>rfl
  have h:=hI.q
  rw[e1,e2,e3,e3,List.map_append,List.sum_append,List.map_append,List.sum_append]
  simp only[List.map_cons,List.map_nil,List.sum_cons,List.sum_nil]
  omega
 ·rw[Qs1 hv hf hI hx _ (sa _)]
  have e1:(a.1.map fun s=>s.Gas).sum=(totS a.1).Gas:=rfl
  have e2:((insE o (ws.drop (wcn n i)) x).map fun s=>s.Gas).sum=(totS (insE o (ws.drop (wcn n i)) x)).Gas:=rfl
  have e3:∀k,((ws.take k).map fun s=>s.Gas).sum=(totS (ws.take k)).Gas:=fun _=>rfl
  have h:=hI.g
  rw[e1,e2,e3,e3,List.map_append,List.sum_append]
  simp only[List.map_cons,List.map_nil,List.sum_cons,List.sum_nil]
  omega
 ·rcases List.mem_append.1 hl with hl |hl
  ·exact hI.l0 l hl
  ·simp at hl;subst hl;exact⟨k7,k8,k9,k10⟩
include hv hf hI hx in
theorem Q4z:Zmi x (totS (insE o (ws.drop (wcn n i)) x)) (actE n.Table x (totS (insE o (ws.drop (wcn n i)) x))):=
 Q5y hv.tab (Qrb (hv.alone x (List.mem_of_getElem? hx))) (hv.level x (List.mem_of_getElem? hx)) (Zi0 hv hf hI hx).2
end
end
section
open Go.RowKit
def ofL (k:Int):Nat→List Qae→List Int
 |_,[]=>[]
 |i,x::l=>if x.Kind=k then(i:Int)::ofL k (i+1) l else ofL k (i+1) l
theorem Qjj (k:Int):∀(l:List Qae) (i:Nat),(ofL k i l).length=(l.filter fun x=>decide (x.Kind=k)).length
 |[],_=>rfl
 |x::l,i=>by
  rw[ofL,List.filter_cons]
  by_cases h:x.Kind=k
  ·rw[if_pos h,if_pos (by simpa using h),List.length_cons,List.length_cons,Qjj k l]
  ·rw[if_neg h,if_neg (by simpa using h),Qjj k l]
theorem Quh (k:Int):∀(l:List Qae) (i:Nat),∀z∈ofL k i l,(i:Int)≤z∧z<(i:Int)+l.length
 |[],_,z,h=>by simp[ofL] at h
 |x::l,i,z,h=>by
  rw[ofL] at h
  simp only[List.length_cons]
  by_cases hk:x.Kind=k
  ·rw[if_pos hk] at h
   rcases List.mem_cons.1 h with rfl |h
   ·omega
   ·have:=Quh k l (i+1) z h;omega
  ·rw[if_neg hk] at h
   have:=Quh k l (i+1) z h;omega
theorem Qwf (k:Int):∀(l m:List Qae) (i:Nat),ofL k i (l++m)=ofL k i l++ofL k (i+l.length) m
 |[],m,i=>by simp[ofL]
 |x::l,m,i=>by
  rw[List.cons_append,ofL,ofL,Qwf k l m (i+1),List.length_cons,show i+1+l.length=i+(l.length+1) by omega]
  by_cases h:x.Kind=k
  ·rw[if_pos h,if_pos h,List.cons_append]
  ·rw[if_neg h,if_neg h]
section
variable {N : Nat} {n : GNet} (hs : Qib n) (hN : 1001 ≤ N)
include hs in
theorem Zky (k:Int) (c:List Int→Option (List Int)):∀(m i:Nat) (acc:List Int),(n.Elements.drop i).length<m→acc.length≤i→Qd4 N n k c m acc i=c (acc++ofL k i (n.Elements.drop i)):=by
 intro m
 induction m with
 |zero=>intro i _ h;cases h
 |succ m ih=>
  intro i acc h ha
  rw[Qd4]
  cases hd:n.Elements.drop i with
  |nil=>
   have:=Qb2 hd
   simp[show ¬((i:Int)<n.Elements.length) from by omega,ofL]
  |cons x l=>
   obtain⟨hg,hd',hlt⟩:=Qbp hd
   have e0:=hs.e
   simp only[dlI hlt,cond_true,Qb1 hg,Option.bind_some]
   rw[w64S (i:=i) (by omega),ofL]
   by_cases hk:x.Kind=k
   ·rw[show(x.Kind==k)=true by simpa using hk,cond_true,if_pos hk]
    simp only[chk]
    rw[show decide ((acc.length+[(i:Int)].length)*8≤140737488355328)=true by simp;omega,cond_true,ih (i+1) _ (dlt hd hd' h) (by simp;omega),hd',List.append_assoc]
    rfl
   ·rw[show(x.Kind==k)=false by simpa using hk,cond_false,if_neg hk,ih (i+1) _ (dlt hd hd' h) (by omega),hd']
include hs hN in
theorem Qz0 (k:Int):Qf2 N n k=some (ofL k 0 n.Elements):=by
 have e0:=hs.e
 unfold Qf2
 simp only[Qbl]
 refine(Zky hs k _ N 0 [] (by simp;omega) (by simp)).trans ?_
 rw[List.drop_zero,List.nil_append]
theorem Q60 (P S:List Int) (p:Int) (hp:p∉P) (hl:P.length≤1000) (k:Unit→Option Int):∀(m i:Nat),P.length-i<m→i≤P.length→Qcm N (P++p::S) k p m i=some (P.length:Int):=by
 intro m
 induction m with
 |zero=>intro i h;cases h
 |succ m ih=>
  intro i h hi
  rw[Qcm]
  rw[show decide ((i:Int)<((P++p::S).length:Int))=true by simp;omega,cond_true]
  by_cases hlt:i<P.length
  ·have hg:(P++p::S)[i]? = some P[i]:=by rw[List.getElem?_append_left hlt,List.getElem?_eq_getElem hlt]
   rw[Qb1 hg,Option.bind_some,show(p==P[i])=false by rw[beq_eq_false_iff_ne];intro e;exact hp (e▸List.getElem_mem hlt),cond_false,w64S (i:=i) (by omega)]
   exact ih (i+1) (by omega) (by omega)
  ·have e:i=P.length:=by omega
   subst e
   have hg:(P++p::S)[P.length]? = some p:=by rw[List.getElem?_append_right (Nat.le_refl _)];simp
   rw[Qb1 hg,Option.bind_some,beq_self_eq_true,cond_true]
include hs hN in
theorem Zj7 {i:Nat}{x:Qae}(hx:n.Elements[i]? = some x) (h1:x.Kind=1):Qfi N (ofL 1 0 n.Elements) i=some (wcn n i:Int):=by
 have hi:=(List.getElem?_eq_some_iff.1 hx).1
 have e0:=hs.e
 have e:n.Elements=n.Elements.take i++x::n.Elements.drop (i+1):=by
  have:n.Elements.drop i=x::n.Elements.drop (i+1):=by
   rw[List.drop_eq_getElem_cons hi]
   rw[List.getElem?_eq_getElem hi] at hx
   cases hx
   rfl
  rw[←this,List.take_append_drop]
 have hlt:(n.Elements.take i).length=i:=by rw[List.length_take];omega
 have e2:ofL 1 0 n.Elements=ofL 1 0 (n.Elements.take i)++(i:Int)::ofL 1 (i+1) (n.Elements.drop (i+1)):=by
  have e3:ofL 1 0 n.Elements=ofL 1 0 (n.Elements.take i++x::n.Elements.drop (i+1)):=congrArg (ofL 1 0) e
  rw[e3,Qwf,hlt,ofL,if_pos h1,Nat.zero_add]
 have hlen:(ofL 1 0 (n.Elements.take i)).length=wcn n i:=Qjj 1 _ 0
 have hb:wcn n i≤18:=by
  rw[←hlen,Qjj]
  have:=List.length_filter_le (fun x:Qae=>decide (x.Kind=1)) (n.Elements.take i)
  omega
 unfold Qfi
 simp only[Qbl]
 rw[e2]
 have:=Q60 (N:=N) (ofL 1 0 (n.Elements.take i)) (ofL 1 (i+1) (n.Elements.drop (i+1))) (i:Int) (fun hm=>by
  have:=Quh 1 _ 0 _ hm
  omega) (by omega) (fun _=>some (-1)) N 0 (by omega) (Nat.zero_le _)
 rw[hlen] at this
 exact this
theorem Qpb (k:List Qaa→Option (List Qaa)):∀(q y:List Qaa),y.length+q.length≤1000→Qaz N k q y=k (y++q)
 |[],y,_=>by simp[Qaz]
 |x::q,y,h=>by
  have hc:decide ((y.length+[x].length)*32≤140737488355328)=true:=by simp at h ⊢;omega
  rw[Qaz]
  simp only[chk]
  rw[hc,cond_true,Qpb k q _ (by simp at h ⊢;omega)]
  simp
end
section
variable {N : Nat} {n : GNet} (hs : Qib n) (hN : 1001 ≤ N) (hv : NetV n) {ws : List Qaa} (hf : FedV n ws) {i : Nat} {o : List (List Qaa)} {ls : List Qbg} (hI : InvT n ws i o ls) {x : Qae} (hx : n.Elements[i]? = some x)
include hv hI hx in
theorem Zbu (hfr:x.From.length≤1000) (R:List (List Qaa)):∀(m j:Nat),(x.From.drop j).length<m→Qdd N x (o++R) m j=some ((x.From.drop j).map (Qhw o)):=by
 intro m
 induction m with
 |zero=>intro j h;cases h
 |succ m ih=>
  intro j h
  rw[Qdd]
  cases hd:x.From.drop j with
  |nil=>
   have:=Qb2 hd
   simp[show ¬((j:Int)<x.From.length) from by omega]
  |cons p l=>
   obtain⟨hg,hd',hlt⟩:=Qbp hd
   have hpm:=List.mem_of_getElem? hg
   obtain⟨p1,_,_,_,p4,_,_⟩:=hv.port i x p hx hpm
   obtain⟨_,_,r,hr,hr2⟩:=Qrq hv hI hx hpm
   have g1:getI (o++R) p.Element=some r:=by
    unfold getI
    rw[if_pos p1,List.getElem?_append_left (List.getElem?_eq_some_iff.1 hr).1,hr]
   have g2:getI r p.Outlet=some (Qhw o p):=by
    unfold getI
    rw[if_pos p4,hr2]
   simp only[dlI hlt,cond_true,Qb1 hg,Option.bind_some,g1,g2]
   rw[w64S (i:=j) (by omega),ih (j+1) (dlt hd hd' h),hd']
   rfl
include hs hN hv hf hI hx in
theorem Zk4 (R:List (List Qaa)) (L:List Qbg) (S:List Int) (y:Int):Qb4 N n.Table n.Elements (o++R) L S ws y i=some (insE o (ws.drop (wcn n i)) x):=by
 have hxs:=hs.x x (List.mem_of_getElem? hx)
 have hS:Qg7 N n.Table n.Elements (o++R) L S ws y i=some (insE o (ws.drop (wcn n i)) x):=by
  unfold Qg7 insE
  rw[Qb1 hx,Option.bind_some]
  by_cases h1:x.Kind=1
  ·rw[show(x.Kind==1)=true by simpa using h1,cond_true,if_pos h1]
   have hw:=Qoi hx
   rw[if_pos h1] at hw
   have hle:=Q92 (n:=n) (i:=i+1)
   have hlt:wcn n i<ws.length:=by rw[hf.len];omega
   rw[Qz0 hs hN 1,Option.bind_some,Zj7 hs hN hx h1,Option.bind_some,Qb1 (List.getElem?_eq_getElem hlt),Option.bind_some,List.drop_eq_getElem_cons hlt]
   rfl
  ·rw[show(x.Kind==1)=false by simpa using h1,cond_false,if_neg h1]
   have:=Zbu (N:=N) hv hI hx (by omega) R N 0 (by simp;omega)
   rw[List.drop_zero] at this
   exact this
 unfold Qb4 Qce
 simp only[Qbl,hS,Option.bind_some]
 have hlen:(insE o (ws.drop (wcn n i)) x).length≤100:=by
  unfold insE
  split
  ·rw[List.length_take];omega
  ·rw[List.length_map];omega
 rw[Qpb _ _ _ (by simp;omega)]
 rfl
end
theorem Qqk {α:Type}{l:List α}{i:Nat}{x:α}(h:l[i]? = some x):l.set i x=l:=by
 obtain⟨h1,h2⟩:=List.getElem?_eq_some_iff.1 h
 subst h2
 exact List.set_getElem_self h1
section
variable {N : Nat} {n : GNet} (hN : 1001 ≤ N) (hv : NetV n) (ht : n.Table.length ≤ 1000) {i : Nat} {x : Qae} (hx : n.Elements[i]? = some x) {s : Qaa} (hst : StrV s) {D nW : Nat} {ws : List Qaa} {y : Int} {O : List (List Qaa)} {Ls : List Qbg} {Ss : List Int} {d : Int}
 (hlo:i<D) (hLs:Ls[i]? = some ⟨0,0,0,0⟩) (hSs:Ss[i]? = some d) (hd0:0≤d) (hd1:d≤1000000000000000) (hO:∃r,O[i]? = some r) (hy0:0≤y) (hy1:y≤1000000000)
include hN hst hlo in
theorem Qzh {wts:List Int}(hw:WtsV wts) {l0:Qbg}(hL:Ls[i]? = some l0) (hl:i<Ls.length):Qfo N i s wts n.Table n.Elements D D nW ws y O Ls Ss=some (Qh2 s wts,Ls.set i ⟨(Qmb s wts).Heat,(Qmb s wts).Silica,(Qmb s wts).Gas,l0.Scale⟩):=by
 have c1:(decide ((0:Int)≤(i:Int))&&decide (i<D))=true:=by simp;omega
 have e:∀q:Qbg,(Ls.set i q)[i]? = some q:=fun q=>List.getElem?_set_self hl
 unfold Qfo
 rw[Zex hst hw hN]
 simp only[Option.bind_some,chk,c1,cond_true,Int.toNat_natCast,hL,e,List.set_set]
include hN hv ht hx hst hlo hLs hSs hd0 hd1 hy0 hy1 in
theorem Q1y (hln:i<Ls.length) (h4:x.Kind=4):Qfk N i s n.Table n.Elements D D D ws y O Ls Ss=some ((actE n.Table x s).1,y+(actE n.Table x s).2.2,Ls.set i (actE n.Table x s).2.1,Ss.set i (d+(actE n.Table x s).2.1.Scale)):=by
 have hxm:=List.mem_of_getElem? hx
 have hA:=Qrb (hv.alone x hxm)
 have hlv:=hv.level x hxm
 have hrow:=(Zap hv.tab (Qgj.2 hlv)).2
 have hk:=Q45 (r:=Qhz n.Table x.Level) hrow hst
 have hK:=Q5y hv.tab hA hlv hst
 have c1:(decide ((0:Int)≤(i:Int))&&decide (i<D))=true:=by simp;omega
 have ef:Q44 n.Table x.Level s=(flG (Qhz n.Table x.Level) s,0):=by
  unfold Q44 Qhz
  rw[hv.tab,Qol.2 hst,Qgj.2 hlv];rfl
 have hq1:=hst.s1
 have hm1:=hst.m1
 have cv:=Qrj hK.v
 have:=cv.s0
 unfold Qfk
 simp only[Qb1 hx,Option.bind_some,Zfi hN ht,ef,chk,c1,cond_true,Int.toNat_natCast,hLs,hSs]
 by_cases h0:x.Amount=0
 ·have ha:actE n.Table x s=([(flG (Qhz n.Table x.Level) s).Steam,(flG (Qhz n.Table x.Level) s).Water],⟨0,0,0,(flG (Qhz n.Table x.Level) s).Scale⟩,(flG (Qhz n.Table x.Level) s).Steam.Mass):=by
   unfold actE
   rw[if_neg (show ¬x.Kind=3 by omega),if_pos h4,if_pos h0]
  rw[ha] at hK
  obtain⟨_,_,_,_,cs,_,_,cq,_,cc,t0,t1⟩:=hK
  dsimp only at t0 t1 cs cc cq
  have:=hk.km
  have:=hk.wa.m0
  have:=hk.ks
  have:=hk.wa.s0
  rw[ha,show(x.Amount==0)=true by simpa using h0,cond_true]
  rw[Qcg (x:=y+_) (by omega) (by omega),Qcg (x:=d+_) (by omega) (by omega)]
 ·have ha:actE n.Table x s=([totS [(flG (Qhz n.Table x.Level) s).Steam,(Qh2 (flG (Qhz n.Table x.Level) s).Water [1000-x.Amount,x.Amount]).getD 1 zs],(Qh2 (flG (Qhz n.Table x.Level) s).Water [1000-x.Amount,x.Amount]).getD 0 zs],
   ⟨(Qmb (flG (Qhz n.Table x.Level) s).Water [1000-x.Amount,x.Amount]).Heat,(Qmb (flG (Qhz n.Table x.Level) s).Water [1000-x.Amount,x.Amount]).Silica,(Qmb (flG (Qhz n.Table x.Level) s).Water [1000-x.Amount,x.Amount]).Gas,(flG (Qhz n.Table x.Level) s).Scale⟩,(flG (Qhz n.Table x.Level) s).Steam.Mass):=by
   unfold actE
   rw[if_neg (show ¬x.Kind=3 by omega),if_pos h4,if_neg h0]
  have hav:=hA.a4 h4
  have hw:=Q95 (a:=x.Amount) (by omega) hav.2
  have:=hk.km
  have:=hk.st.m0
  have:=hk.wa.m0
  have:=hk.ks
  have:=hk.wa.s0
  have:=hk.sc
  rw[ha,show(x.Amount==0)=false by simpa using h0,cond_false,Qcg (x:=y+_) (by omega) (by omega),Qcg (x:=d+_) (by omega) (by omega),Qcg (x:=1000-x.Amount) (by omega) (by omega)]
  have hsh:=Qzh (N:=N) (n:=n) (nW:=D) (ws:=ws) (y:=y+(flG (Qhz n.Table x.Level) s).Steam.Mass) (O:=O) (Ss:=Ss.set i (d+(flG (Qhz n.Table x.Level) s).Scale)) (Ls:=Ls.set i ⟨0,0,0,(flG (Qhz n.Table x.Level) s).Scale⟩) (l0:=⟨0,0,0,(flG (Qhz n.Table x.Level) s).Scale⟩) hN hk.wa hlo hw (List.getElem?_set_self hln) (by rw[List.length_set];exact hln)
  obtain⟨u,v,hp⟩:=Qzb (s:=(flG (Qhz n.Table x.Level) s).Water) (a:=1000-x.Amount) (b:=x.Amount)
  have hKp:=Qmr hk.wa hw
  rw[hp] at hsh hKp ⊢
  have htot:Qge N [(flG (Qhz n.Table x.Level) s).Steam,v]=some (totS [(flG (Qhz n.Table x.Level) s).Steam,v]):=by
   rw[Q1v (by simp) hN,Qtl (fun z hz=>by
    simp at hz
    rcases hz with rfl |rfl
    ·exact hk.st
    ·exact hKp.v _ (by simp)) (by simp)]
  refine(congrArg (fun z=>Option.bind z _) hsh).trans ?_
  simp only[Option.bind_some,show getI [u,v] 1=some v from rfl,show getI [u,v] 0=some u from rfl,List.set_set]
  exact congrArg (fun z=>Option.bind z _) htot
include hN hv ht hx hst hlo hLs hSs hd0 hd1 hO hy0 hy1 in
theorem Zl1 (hln:i<Ls.length) (hD:D=O.length) (hDl:D=Ls.length) (hDs:D=Ss.length) {w:Int}(hw:s.Mass≤w) {ins:List Qaa}(hin:Qb4 N n.Table n.Elements O Ls Ss ws y i=some ins) (htot:Qge N ins=some s) :
  Qc2 N i w n.Table n.Elements D D D ws y O Ls Ss=some (.inl (y+(actE n.Table x s).2.2,O.set i (actE n.Table x s).1,Ls.set i (actE n.Table x s).2.1,Ss.set i (d+(actE n.Table x s).2.1.Scale))):=by
 have hxm:=List.mem_of_getElem? hx
 have hA:=Qrb (hv.alone x hxm)
 obtain⟨r,hr⟩:=hO
 have c1:(decide ((0:Int)≤(i:Int))&&decide (i<D))=true:=by simp;omega
 unfold Qc2
 simp only[Qg8,Option.bind_some,chk,Qbl,show decide (D≤O.length)=true by simp;omega,show decide (D≤Ls.length)=true by simp;omega,show decide (D≤Ss.length)=true by simp;omega,cond_true]
 rw[show O.take D=O from by rw[hD,List.take_length],show Ls.take D=Ls from by rw[hDl,List.take_length],show Ss.take D=Ss from by rw[hDs,List.take_length],hin,Option.bind_some,htot,Option.bind_some,decide_eq_false (show ¬s.Mass>w by omega),cond_false,Qb1 hx,Option.bind_some]
 simp only[c1,cond_true,Int.toNat_natCast,hr,Option.bind_some,Qf8]
 have hpass:(actE n.Table x s)=([s],⟨0,0,0,0⟩,0)→(y,O.set i [s],Ls,Ss)=(y+(actE n.Table x s).2.2,O.set i (actE n.Table x s).1,Ls.set i (actE n.Table x s).2.1,Ss.set i (d+(actE n.Table x s).2.1.Scale)):=fun e=>by
  rw[e]
  simp only[Int.add_zero]
  rw[Qqk hLs,Qqk hSs]
 by_cases h1:x.Kind=1
 ·rw[h1]
  simp only[show((1:Int)==0)=false from rfl,show((1:Int)==1)=true from rfl,cond_true,cond_false]
  rw[hpass (by unfold actE;rw[if_neg (by omega),if_neg (by omega),if_neg (by omega)])]
 by_cases h2:x.Kind=2
 ·rw[h2]
  simp only[show((2:Int)==0)=false from rfl,show((2:Int)==1)=false from rfl,show((2:Int)==2)=true from rfl,cond_true,cond_false]
  rw[hpass (by unfold actE;rw[if_neg (by omega),if_neg (by omega),if_neg (by omega)])]
 by_cases h3:x.Kind=3
 ·rw[h3]
  simp only[show((3:Int)==0)=false from rfl,show((3:Int)==1)=false from rfl,show((3:Int)==2)=false from rfl,show((3:Int)==3)=true from rfl,cond_true,cond_false]
  have e:actE n.Table x s=([⟨s.Mass,s.Heat-Qsu x s,s.Silica,s.Gas⟩],⟨Qsu x s,0,0,0⟩,0):=by unfold actE;rw[if_pos h3]
  have hc:0≤Qsu x s∧Qsu x s≤s.Heat:=by
   have:=hA.a3 h3
   have:=hst.h0
   unfold Qsu;split<;>omega
  have:=hst.h1
  have:=hst.m1
  unfold Qie
  simp only[Qb1 hx,Option.bind_some,chk,c1,cond_true,Int.toNat_natCast,hLs]
  rw[show(if s.Heat<x.Amount then s.Heat else x.Amount)=Qsu x s from rfl,Qcg (x:=s.Heat-Qsu x s) (by omega) (by omega),e]
  simp only[Int.add_zero]
  rw[Qqk hSs]
 by_cases h4:x.Kind=4
 ·have hsep:=Q1y (N:=N) hN hv ht hx hst (ws:=ws) (O:=O) hlo hLs hSs hd0 hd1 hy0 hy1 hln h4
  rw[h4]
  simp only[show((4:Int)==0)=false from rfl,show((4:Int)==1)=false from rfl,show((4:Int)==2)=false from rfl,show((4:Int)==3)=false from rfl,show((4:Int)==4)=true from rfl,cond_true,cond_false,hsep,Option.bind_some]
 by_cases h5:x.Kind=5
 ·have hsh:=Qzh (N:=N) (n:=n) (nW:=D) (ws:=ws) (y:=y) (O:=O) (Ss:=Ss) (Ls:=Ls) hN hst hlo (hA.w5 h5) hLs hln
  have e:actE n.Table x s=(Qh2 s x.Weights,⟨(Qmb s x.Weights).Heat,(Qmb s x.Weights).Silica,(Qmb s x.Weights).Gas,0⟩,0):=by unfold actE;rw[if_neg h3,if_neg h4,if_pos h5]
  rw[h5]
  unfold Qhx
  simp only[show((5:Int)==0)=false from rfl,show((5:Int)==1)=false from rfl,show((5:Int)==2)=false from rfl,show((5:Int)==3)=false from rfl,show((5:Int)==4)=false from rfl,show((5:Int)==5)=true from rfl,cond_true,cond_false,Qb1 hx,Option.bind_some,hsh,e,Int.add_zero]
  rw[Qqk hSs]
 have h6:x.Kind=6:=by have:=hA.k;omega
 rw[h6]
 simp only[show((6:Int)==0)=false from rfl,show((6:Int)==1)=false from rfl,show((6:Int)==2)=false from rfl,show((6:Int)==3)=false from rfl,show((6:Int)==4)=false from rfl,show((6:Int)==5)=false from rfl,show((6:Int)==6)=true from rfl,cond_true,cond_false]
 rw[hpass (by unfold actE;rw[if_neg h3,if_neg h4,if_neg h5])]
end
end
section
open Go.RowKit
theorem Zcn {N:Nat}{n:GNet}{i:Nat}{w:Int}{D:Nat}{ws:List Qaa}{y:Int}{O:List (List Qaa)}{Ls:List Qbg}{Ss:List Int}{s:Qaa}(hD:D=O.length) (hDl:D=Ls.length) (hDs:D=Ss.length) (hw:¬s.Mass≤w) {ins:List Qaa}(hin:Qb4 N n.Table n.Elements O Ls Ss ws y i=some ins) (htot:Qge N ins=some s) :
  Qc2 N i w n.Table n.Elements D D D ws y O Ls Ss=some (.inr i):=by
 unfold Qc2
 simp only[Qg8,Option.bind_some,chk,Qbl,show decide (D≤O.length)=true by simp;omega,show decide (D≤Ls.length)=true by simp;omega,show decide (D≤Ss.length)=true by simp;omega,cond_true]
 rw[show O.take D=O from by rw[hD,List.take_length],show Ls.take D=Ls from by rw[hDl,List.take_length],show Ss.take D=Ss from by rw[hDs,List.take_length],hin,Option.bind_some,htot,Option.bind_some,decide_eq_true (show s.Mass>w by omega),cond_true]
abbrev Qvu:=List (List Qaa)×List Qbg×List Int×Int
def Qyj {β:Type}(r:Nat⊕Qvu) (f:Nat→β) (g:Qvu→β):β:=match r with |.inl a=>f a |.inr b=>g b
theorem Zam {α:Type}{o:List α}{i k:Nat}(h:o.length=i) (x y:α):(o++List.replicate (k+1) x).set i y=(o++[y])++List.replicate k x:=by
 rw[List.set_append_right _ _ (by omega),h,Nat.sub_self,List.replicate_succ,List.set_cons_zero,List.append_assoc]
 rfl
structure StV (n:GNet) (st:List Int):Prop where
 len:st.length=n.Elements.length
 bd:∀d∈st,0≤d∧d≤1000000000000000
theorem Zim {n:GNet}{st:List Int}(hst:stB n st=true):StV n st:=by
 unfold stB at hst
 simp only[Bool.and_eq_true,decide_eq_true_eq] at hst
 refine⟨hst.1,fun d hd=>?_⟩
 have:=Qgj.1 (List.all_eq_true.1 hst.2 d hd)
 omega
theorem Qv7 {n:GNet}{st:List Int}(hst:StV n st):st.length=n.Elements.length:=hst.len
theorem Zom {n:GNet}{st:List Int}(hst:StV n st) {i:Nat}(hi:i<n.Elements.length):∃d,st[i]? = some d∧0≤d∧d≤1000000000000000:=by
 have hl:=hst.len
 obtain⟨a,b⟩:=hst.bd (st[i]'(by omega)) (List.getElem_mem _)
 exact⟨st[i]'(by omega),List.getElem?_eq_getElem _,a,b⟩
section
variable {N : Nat} {n : GNet} (hs : Qib n) (hN : 1001 ≤ N) (hv : NetV n) {ws : List Qaa} (hf : FedV n ws) {st : List Int} (hst : StV n st)
include hs hN hv hf hst in
theorem Zl2 (k:List (List Qaa)×List Qbg×List Int×Int→Option (Int⊕(Int×Int×List (List Qaa)×List Qbg×List Int))):∀(m i:Nat) (o:List (List Qaa)) (ls:List Qbg) (ss:List Int) (y:Int),(n.Elements.drop i).length<m→i≤n.Elements.length→InvT n ws i o ls→ss.length=i→0≤y→y≤1000000*i →
  Qdz N n st ws k m i (o++List.replicate (n.Elements.length-i) []) (ls++List.replicate (n.Elements.length-i) ⟨0,0,0,0⟩) (ss++st.drop i) y =
  Qyj (Qtn n.Table ((n.Elements.drop i).zip (st.drop i)) (ws.drop (wcn n i)) o ls ss y) (fun a=>some (.inl (a:Int))) k:=by
 intro m
 induction m with
 |zero=>intro i _ _ _ _ h;cases h
 |succ m ih=>
  intro i o ls ss y h hi hI hss hy0 hy1
  have hsl:=Qv7 hst
  have e0:=hs.e
  rw[Qdz]
  cases hd:n.Elements.drop i with
  |nil=>
   have:=Qb2 hd
   have hi2:i=n.Elements.length:=by omega
   subst hi2
   rw[show decide ((n.Elements.length:Int)<(n.Elements.length:Int))=false by simp,cond_false,Nat.sub_self,show st.drop n.Elements.length=[] from List.drop_of_length_le (by omega)]
   simp[Qtn,Qyj]
  |cons x l=>
   obtain⟨hg,hd',hlt⟩:=Qbp hd
   obtain⟨d,hgd,d0,d1⟩:=Zom hst hlt
   have hds:st.drop i=d::st.drop (i+1):=by
    have hi:=(List.getElem?_eq_some_iff.1 hgd).1
    rw[List.drop_eq_getElem_cons hi]
    rw[List.getElem?_eq_getElem hi] at hgd
    cases hgd;rfl
   obtain⟨iv,it⟩:=Zi0 hv hf hI hg
   have hx:=hs.x x (List.mem_of_getElem? hg)
   have hinl:(insE o (ws.drop (wcn n i)) x).length≤100:=by
    unfold insE
    split
    ·rw[List.length_take];omega
    ·rw[List.length_map];omega
   have hk:n.Elements.length-i=(n.Elements.length-(i+1))+1:=by omega
   have hwid:=Q9z N (hv.alone x (List.mem_of_getElem? hg)) d0 (show d≤9000000000000000000 by omega)
   simp only[dlI hlt,cond_true,Qb1 hg,Qb1 hgd,Option.bind_some,hwid,Int.toNat_natCast,hsl]
   have htot:Qge N (insE o (ws.drop (wcn n i)) x)=some (totS (insE o (ws.drop (wcn n i)) x)):=by rw[Q1v (by omega) hN,Qtl iv (by omega)]
   have hin:=Zk4 hs hN hv hf hI hg (List.replicate (n.Elements.length-i) []) (ls++List.replicate (n.Elements.length-i) ⟨0,0,0,0⟩) (ss++st.drop i) y
   have lO:n.Elements.length=(o++List.replicate (n.Elements.length-i) []).length:=by simp[hI.lo];omega
   have lL:n.Elements.length=(ls++List.replicate (n.Elements.length-i) (⟨0,0,0,0⟩:Qbg)).length:=by simp[hI.ll];omega
   have lS:n.Elements.length=(ss++st.drop i).length:=by simp[hss,hsl];omega
   rw[hds,List.zip_cons_cons,Qtn]
   by_cases hm:(totS (insE o (ws.drop (wcn n i)) x)).Mass>widI x d
   ·rw[if_pos hm,←hds,Zcn lO lL lS (by omega) hin htot,hI.lo]
    rfl
   ·rw[if_neg hm]
    have hLs:(ls++List.replicate (n.Elements.length-i) (⟨0,0,0,0⟩:Qbg))[i]? = some ⟨0,0,0,0⟩:=by
     rw[List.getElem?_append_right (by rw[hI.ll];exact Nat.le_refl _),hI.ll,Nat.sub_self,hk,List.replicate_succ];rfl
    have hSs:(ss++st.drop i)[i]? = some d:=by
     rw[List.getElem?_append_right (by omega),hss,Nat.sub_self,hds];rfl
    have hO:∃r,(o++List.replicate (n.Elements.length-i) ([]:List Qaa))[i]? = some r:=⟨[],by
     rw[List.getElem?_append_right (by rw[hI.lo];exact Nat.le_refl _),hI.lo,Nat.sub_self,hk,List.replicate_succ];rfl⟩
    have hel:=Zl1 (N:=N) hN hv (by have:=hs.t;omega) hg it (D:=n.Elements.length) hlt hLs hSs d0 (by omega) hO hy0 (by omega) (by rw[←lL];exact hlt) lO lL lS (w:=widI x d) (by omega) hin htot
    have hK:=Q4z hv hf hI hg
    have hI2:=Q4y hv hf hI hg hK
    rw[←hds,hel,Option.bind_some,Sum.elim_inl]
    dsimp only
    have hSet:(ss++st.drop i).set i (d+(actE n.Table x (totS (insE o (ws.drop (wcn n i)) x))).2.1.Scale)=(ss++[d+(actE n.Table x (totS (insE o (ws.drop (wcn n i)) x))).2.1.Scale])++st.drop (i+1):=by
     rw[hds,List.set_append_right _ _ (by omega),hss,Nat.sub_self,List.set_cons_zero,List.append_assoc]
     rfl
    rw[hSet,hk,Zam hI.lo,Zam hI.ll,w64S (i:=i) (by omega)]
    have t0:=hK.t0
    have t1:=hK.t1
    have hih:=ih (i+1) _ _ (ss++[d+(actE n.Table x (totS (insE o (ws.drop (wcn n i)) x))).2.1.Scale]) (y+(actE n.Table x (totS (insE o (ws.drop (wcn n i)) x))).2.2) (dlt hd hd' h) hlt hI2 (by simp[hss]) (by omega) (by omega)
    rw[hd'] at hih
    refine hih.trans ?_
    have hw:ws.drop (wcn n (i+1))=if x.Kind=1 then(ws.drop (wcn n i)).drop 1 else ws.drop (wcn n i):=by
     rw[Qoi hg]
     split
     ·rw[List.drop_drop]
     ·rfl
    rw[hw]
def Qtm (n:GNet) (st:List Int) (ws:List Qaa):Nat⊕Qvu:=Qtn n.Table (n.Elements.zip st) ws [] [] [] 0
include hs hN hv hf hst in
theorem Zo3:Qf3 N n st ws=Qyj (Qtm n st ws) (fun a=>some (.inl (a:Int))) (fun r=>some (.inr (-1,r.2.2.2,r.1,r.2.1,r.2.2.1))):=by
 have e0:=hs.e
 have hsl:=Qv7 hst
 have hl1:=hv.len.1
 have hne:(!st.isEmpty)=true:=by
  cases st with
  |nil=>simp at hsl;omega
  |cons=>rfl
 unfold Qf3 Qfz
 simp only[chk,hne,Qbl]
 rw[show(decide (0≤(n.Elements.length:Int))&&decide (24*(n.Elements.length:Int)≤281474976710656)&&decide ((n.Elements.length:Int)≤9223372036854775807))=true by simp;omega,show(decide (0≤(n.Elements.length:Int))&&decide (32*(n.Elements.length:Int)≤281474976710656)&&decide ((n.Elements.length:Int)≤9223372036854775807))=true by simp;omega,show decide ((0+st.length)*8≤140737488355328)=true by simp;omega]
 simp only[cond_true,Option.bind_some,Int.toNat_natCast]
 have:=Zl2 hs hN hv hf hst (fun x=>match x with |(y12,y13,y14,y15)=>some (.inr (-1,y15,y12,y13,y14))) N 0 [] [] [] 0 (by simp;omega) (Nat.zero_le _) (Q0a n ws) rfl (Int.le_refl _) (by simp)
 simp only[List.nil_append,Nat.sub_zero,List.drop_zero,show wcn n 0=0 from rfl] at this
 refine this.trans ?_
 unfold Qtm
 rfl
end
def fedI (n:GNet) (ws:List Qaa):Int:=
 bif decide (ws.length=wcn n n.Elements.length)&&ws.all strB then(if (totS ws).Mass>1000000 then 3 else if (totS ws).Gas>1000000000 then 3 else 0) else 1
theorem Zg2 (N:Nat) (s:Qaa):Qgq N s=some (bif strB s then 0 else 1):=by
 unfold Qgq
 rw[Qxh]
 cases strB s<;>rfl
theorem Zi1 {N:Nat}{n:GNet}(hs:Qib n) (hN:1001≤N) {ws:List Qaa}(hl:ws.length≤1000):Qif N n ws=some (fedI n ws):=by
 have hc:Qbn N ws=some (ws.any fun x=>!strB x):=by
  unfold Qbn Qb7 Qbl
  refine Qi3 (F:=Qbc N ws fun _=>some (-1)) (k:=fun _=>some (-1)) (q:=Qdx N) (fun n y=>rfl) (fun x=>?_) rfl (by omega) (by omega)
  simp only[Qdx,Qjh,Zg2,Option.bind_some]
  cases strB x<;>rfl
 have e0:=hs.e
 have hof:(ofL 1 0 n.Elements).length=wcn n n.Elements.length:=by rw[Qjj];unfold wcn;rw[List.take_length]
 unfold Qif Qfp fedI
 simp only[Qbl,Qz0 hs hN 1,Option.bind_some,hc,Qvk,hof,Q1v hl hN]
 by_cases h1:ws.length=wcn n n.Elements.length
 ·rw[decide_eq_true h1,show((ws.length:Int) != (wcn n n.Elements.length:Int))=false by rw[bne_eq_false_iff_eq];omega]
  cases ha:ws.all strB with
  |false=>rfl
  |true=>
   have hall:∀s∈ws,StrV s:=fun s h=>Qol.1 (List.all_eq_true.1 ha s h)
   rw[Qtl hall hl]
   simp only[cond_false,Bool.not_true,Bool.true_and,cond_true]
   by_cases h2:(totS ws).Mass>1000000
   ·rw[decide_eq_true h2,if_pos h2];rfl
   ·rw[decide_eq_false h2,if_neg h2]
    by_cases h3:(totS ws).Gas>1000000000
    ·rw[decide_eq_true h3,if_pos h3];rfl
    ·rw[decide_eq_false h3,if_neg h3];rfl
 ·rw[decide_eq_false h1,show((ws.length:Int) != (wcn n n.Elements.length:Int))=true by rw[bne_iff_ne];omega];rfl
theorem Zb0 {n:GNet}{ws:List Qaa}(h:fedI n ws=0):FedV n ws:=by
 unfold fedI at h
 cases hb:decide (ws.length=wcn n n.Elements.length)&&ws.all strB with
 |false=>rw[hb] at h;cases h
 |true=>
  rw[hb,cond_true] at h
  simp only[Bool.and_eq_true,decide_eq_true_eq] at hb
  by_cases h2:(totS ws).Mass>1000000
  ·rw[if_pos h2] at h;cases h
  ·rw[if_neg h2] at h
   by_cases h3:(totS ws).Gas>1000000000
   ·rw[if_pos h3] at h;cases h
   ·exact⟨hb.1,fun s hs=>Qol.1 (List.all_eq_true.1 hb.2 s hs),by omega,by omega⟩
def Qo8 (n:GNet) (st:List Int) (ws:List Qaa):Int:=bif netB n&&stB n st then fedI n ws else 1
theorem Ze2 {N:Nat}{n:GNet}(hs:Qib n) (hN:1001≤N) {st:List Int}{ws:List Qaa}(hl:ws.length≤1000) (hl2:st.length≤1000):Qlh N n st ws=some (Qo8 n st ws):=by
 unfold Qlh Qo8
 rw[Qzd hs hN hl2,Option.bind_some]
 cases netB n&&stB n st with
 |false=>rfl
 |true=>simp only[cond_true,show((0:Int) != 0)=false from rfl,cond_false,Zi1 hs hN hl,Option.bind_some]
def Zoi:Qhm:=⟨[],[],[]⟩
def doA (n:GNet) (st:List Int) (ws:List Qaa):Qhm×Int×Int:=
 if Qo8 n st ws=0 then Qyj (Qtm n st ws) (fun a=>(Zoi,(a:Int),11)) (fun r=>(⟨r.1,r.2.1,r.2.2.1⟩,0,0)) else(Zoi,0,Qo8 n st ws)
theorem Za0 {n:GNet}{st:List Int}{ws:List Qaa}(h:Qo8 n st ws=0):NetV n∧StV n st∧FedV n ws∧netB n=true:=by
 unfold Qo8 at h
 cases hb:netB n&&stB n st with
 |false=>rw[hb] at h;cases h
 |true=>
  rw[hb] at h
  rw[Bool.and_eq_true] at hb
  exact⟨Qm5 hb.1,Zim hb.2,Zb0 h,hb.1⟩
structure Zpb (n:GNet) (st:List Int) (ws:List Qaa) (r:Qvu):Prop where
 inv:InvT n ws n.Elements.length r.1 r.2.1
 ss:r.2.2.1=List.zipWith (fun (d:Int) (l:Qbg)=>d+l.Scale) st r.2.1
 y0:0≤r.2.2.2
theorem Q4e {n:GNet}(hv:NetV n) {ws:List Qaa}(hf:FedV n ws) {st:List Int}(hst:StV n st):∀(l:List (Qae×Int)) (i:Nat) (o:List (List Qaa)) (ls:List Qbg) (ss:List Int) (y:Int) (r:Qvu),
  l=(n.Elements.drop i).zip (st.drop i)→i≤n.Elements.length→InvT n ws i o ls→ss=List.zipWith (fun (d:Int) (q:Qbg)=>d+q.Scale) (st.take i) ls→0≤y→Qtn n.Table l (ws.drop (wcn n i)) o ls ss y=.inr r→Zpb n st ws r
 |[],i,o,ls,ss,y,r,hl,hi,hI,hss,hy,h=>by
  have hsl:=Qv7 hst
  have hlen:(n.Elements.drop i).length=0:=by
   have:=congrArg List.length hl
   rw[List.length_zip,List.length_drop,List.length_drop] at this
   simp at this
   rw[List.length_drop];omega
  rw[List.length_drop] at hlen
  have e:i=n.Elements.length:=by omega
  rw[Qtn] at h
  cases h
  subst e
  exact⟨hI,by dsimp only;rw[hss,List.take_of_length_le (by omega)],hy⟩
 |(x,d)::l,i,o,ls,ss,y,r,hl,hi,hI,hss,hy,h=>by
  have hsl:=Qv7 hst
  have hlt:i<n.Elements.length:=by
   apply Decidable.byContradiction
   intro hc
   rw[List.drop_of_length_le (by omega)] at hl
   simp at hl
  have hdE:n.Elements.drop i=n.Elements[i]::n.Elements.drop (i+1):=List.drop_eq_getElem_cons hlt
  have hdS:st.drop i=st[i]'(by omega)::st.drop (i+1):=List.drop_eq_getElem_cons (by omega)
  rw[hdE,hdS,List.zip_cons_cons,List.cons.injEq,Prod.mk.injEq] at hl
  obtain⟨⟨hx,hd⟩,hl⟩:=hl
  have hg:n.Elements[i]? = some x:=by rw[hx];exact List.getElem?_eq_getElem hlt
  have hgd:st[i]? = some d:=by rw[hd];exact List.getElem?_eq_getElem _
  rw[Qtn] at h
  by_cases hm:(totS (insE o (ws.drop (wcn n i)) x)).Mass>widI x d
  ·rw[if_pos hm] at h;cases h
  ·rw[if_neg hm] at h
   have hK:=Q4z hv hf hI hg
   have hI2:=Q4y hv hf hI hg hK
   have hw:ws.drop (wcn n (i+1))=if x.Kind=1 then(ws.drop (wcn n i)).drop 1 else ws.drop (wcn n i):=by
    rw[Qoi hg]
    split
    ·rw[List.drop_drop]
    ·rfl
   rw[←hw] at h
   refine Q4e hv hf hst l (i+1) _ _ _ _ r hl hlt hI2 ?_ (by have:=hK.t0;omega) h
   rw[Ql0 hgd,hss,List.zipWith_append (by rw[List.length_take,hI.ll];omega)]
   rfl
theorem Qok {n:GNet}(hv:NetV n) {ws:List Qaa}(hf:FedV n ws) {st:List Int}(hst:StV n st) {r:Qvu}(h:Qtm n st ws=.inr r):Zpb n st ws r:=
 Q4e hv hf hst _ 0 [] [] [] 0 r (by simp) (Nat.zero_le _) (Q0a n ws) (by simp) (Int.le_refl _) h
theorem Zo4 {N:Nat}{n:GNet}(hs:Qib n) (hN:1001≤N) {st:List Int}{ws:List Qaa}(hl:ws.length≤1000) (hl2:st.length≤1000):Qm4 N n st ws=some (doA n st ws):=by
 unfold Qm4 doA
 rw[Ze2 hs hN hl hl2,Option.bind_some]
 by_cases hr:Qo8 n st ws=0
 ·obtain⟨hv,hst,hf,_⟩:=Za0 hr
  rw[if_pos hr,hr,show((0:Int) != 0)=false from rfl,cond_false,Zo3 hs hN hv hf hst]
  cases ht:Qtm n st ws with
  |inl a=>
   simp only[Qyj,Option.bind_some,Sum.elim_inl,decide_eq_true (show(a:Int)≥0 by omega),cond_true]
   rfl
  |inr r=>
   obtain⟨⟨h1,h2,_⟩,h3,_⟩:=Qok hv hf hst ht
   have hsl:=Qv7 hst
   have h4:r.2.2.1.length=n.Elements.length:=by rw[h3,List.length_zipWith];omega
   simp only[Qyj,Option.bind_some,Sum.elim_inr,show decide ((-1:Int)≥0)=false from rfl,cond_false,chk,Int.toNat_natCast]
   rw[show decide (n.Elements.length≤r.1.length)=true by simp;omega,show decide (n.Elements.length≤r.2.1.length)=true by simp;omega,show decide (st.length≤r.2.2.1.length)=true by simp;omega,List.take_of_length_le (by omega),List.take_of_length_le (by omega),List.take_of_length_le (by omega)]
   rfl
 ·rw[if_neg hr,show(Qo8 n st ws != 0)=true by simpa using hr,cond_true]
  rfl
end
section
set_option maxRecDepth 100000
set_option maxHeartbeats 4000000
open Go.RowKit
def Qft (N:Nat) (p0:List Qaa) (k5:Int×Int×Int×Int→Option Qaa):Nat→Int→Int→Int→Int→Int→Option Qaa
  |0,_,_,_,_,_=>none
  |n16+1,y6,y7,y8,y9,y10=>
    bif (decide (y6<(p0.length:Int))) then
     (getI p0 y6).bind fun x18=>
     Qft N p0 k5 n16 (w64 (y6+1)) (w64 (y7+x18.Mass)) (w64 (y8+x18.Heat)) (w64 (y9+x18.Silica)) (w64 (y10+x18.Gas))
    else
     k5 (y7,y8,y9,y10)
def Qmh (N:Nat) (p0:List Qaa):Option Qaa:=
  Qbl (fun ⟨y1,y2,y3,y4⟩=>
    some (⟨y1,y2,y3,y4⟩:Qaa)) fun k5:Int×Int×Int×Int→Option Qaa=>
  Qft N p0 k5 N 0 0 0 0 0
def Qr7:Slot:=.own 4 [[(I (0)),(I (0)),(I (0)),(I (0))]]
def Q36 (p0:List Qaa):AV:=.dat 4 (p0.map Qah)
theorem Qxu (N:Nat) (p0:List Qaa) (r:Qaa) (h:Qmh N p0=some r):Spec prog 38 [(.dat 4 (p0.map Qah))] [] (.agg (Qah r)) []:=by
  refine Qan func38 rfl 0 (nle rfl) (fun X φ0 w0 hφ0 hd0=>?_)
  unfold Qmh at h
  refine wxz<|wxz ?_
  obtain⟨k5,hk_k5,h⟩:=jko h
  refine wjn (τ:=Int×Int×Int×Int) (fun t=>k5 t=some r) (fun ⟨y1,y2,y3,y4⟩=>⟨mk 45 [(2,.ref 0 4 0 0),(3,.ref 1 4 0 0)],[Qr7,(.own 4 [[I y1,I y2,I y3,I y4]])]⟩) (fun t h=>?_) ?_
  ·subst hk_k5
   obtain⟨y1,y2,y3,y4⟩:=t
   refine wxz<|Qaj ?_
   obtain rfl:=osi h
   exact fend ⟨[(.agg [I y1,I y2,I y3,I y4])],⟨Qbu (n:=0) (m:=4) (j:=0) (i:=0) (xs:=[[I y1,I y2,I y3,I y4]]) (by kernel_rfl) (by kernel_rfl) ti89 (by decide) rfl (nle rfl) rfl,tv⟩,rfl⟩ (NLt.agg _ (nlcc (nlcc nl0)))
  ·skip
   refine wxz<|Qar ?_
   refine wmr (mto (n:=45) (l':=[(0,(Q36 p0)),(2,.ref 0 4 0 0),(3,.ref 1 4 0 0),(4,I 0)]) (own':=[Qr7,Qr7]) [(0,(Q36 p0)),(2,.ref 0 4 0 0),(3,.ref 1 4 0 0),(4,I 0)] [0,1] [Qr7,Qr7] hφ0 (pc (rnd Qam) (prr (prr (pw pn)))) (qb (lcc (lcc ln)) (qb (lcc (lcc ln)) qn))) ?_
   refine Qbt (τ:=Int×Int×Int×Int×Int) (fun n t=>Qft N p0 k5 n t.1 t.2.1 t.2.2.1 t.2.2.2.1 t.2.2.2.2=some r) (fun ⟨y6,y7,y8,y9,y10⟩=>⟨mk 45 [(0,(Q36 p0)),(2,.ref 0 4 0 0),(3,.ref 1 4 0 0),(4,I y6)],[Qr7,(.own 4 [[I y7,I y8,I y9,I y10]])]⟩) (fun t h=>by rw[Qft] at h;cases h) (fun n16 ih t h=>?_) N (0,0,0,0,0) h
   obtain⟨y6,y7,y8,y9,y10⟩:=t
   rw[Qft] at h
   skip
   refine wsq<|wx tbk [(2,rp _ _)] ⟨alq 4 Qah p0 underlying28,tv⟩ ?_
   refine bfe h (fun hc17 h=>?_) fun hc17 h=>?_
   ·refine wft hc17<|Qap<|thn<|wsq<|Qar ?_
    obtain⟨x18,hg19,h⟩:=bno h
    obtain⟨hi20,hj21⟩:=gsm hg19
    refine wy1 tbk [(4,rp _ _),(12,rp _ _),(20,rp _ _),(28,rp _ _),(32,rp _ _)] ⟨aiq underlying28 ti89 Qah hi20 hj21,aiq underlying28 ti89 Qah hi20 hj21,aiq underlying28 ti89 Qah hi20 hj21,aiq underlying28 ti89 Qah hi20 hj21,Qa5 (vs:=[(I (w64 (y7+x18.Mass))),(I (w64 (y8+x18.Heat))),(I (w64 (y9+x18.Silica))),(I (w64 (y10+x18.Gas)))]) rfl ts89 tz89 rfl (by rfl) rfl,tv⟩<|bln<|thn<|wxz1<|thn ?_
    exact arm (mto (n:=45) [(0,(Q36 p0)),(2,.ref 0 4 0 0),(3,.ref 1 4 0 0),(4,(I (w64 (y6+1))))] [0,1] [Qr7,(.own 4 [[(I (w64 (y7+x18.Mass))),(I (w64 (y8+x18.Heat))),(I (w64 (y9+x18.Silica))),(I (w64 (y10+x18.Gas)))]])] hφ0 (pc (rnd Qam) (prr (prr (pw pn)))) (qb (lcc (lcc ln)) (qb (lcc (lcc ln)) qn))) (ih (w64 (y6+1),w64 (y7+x18.Mass),w64 (y8+x18.Heat),w64 (y9+x18.Silica),w64 (y10+x18.Gas)) h)
   ·exact wfn hc17<|Qbf<|Qaw<|Qaw<|Qbe rfl<|thn<|⟨(y7,y8,y9,y10),h,(mto (n:=45) [(2,.ref 0 4 0 0),(3,.ref 1 4 0 0)] [0,1] [Qr7,(.own 4 [[I y7,I y8,I y9,I y10]])] hφ0 (prr (prr pn)) (qb (lcc (lcc ln)) (qb (lcc (lcc ln)) qn)))⟩
def Qdy (N:Nat) (p0:List Qaa) (k1:Unit→Option Bool):Nat→Int→Option Bool
  |0,_=>none
  |n4+1,y2=>
    bif (decide (y2<(p0.length:Int))) then
     (getI p0 y2).bind fun x6=>
     (Qgu N x6).bind fun x11=>
     bif (!x11) then
      some false
     else
      Qdy N p0 k1 n4 (w64 (y2+1))
    else
     k1 ()
def Qim (N:Nat) (p0:List Qaa):Option Bool:=
  Qbl (fun _=>
    some true) fun k1:Unit→Option Bool=>
  Qdy N p0 k1 N 0
def Q35 (p0:List Qaa):AV:=.dat 4 (p0.map Qah)
theorem Qro (N:Nat) (p0:List Qaa) (r:Bool) (h:Qim N p0=some r):Spec prog 98 [(.dat 4 (p0.map Qah))] [] (B r) []:=by
  refine Qan func98 rfl 0 (nle rfl) (fun X φ0 w0 hφ0 hd0=>?_)
  unfold Qim at h
  refine wxz ?_
  obtain⟨k1,hk_k1,h⟩:=jko h
  refine wjn (τ:=Unit) (fun t=>k1 t=some r) (fun _=>⟨mk 16 [],[]⟩) (fun t h=>?_) ?_
  ·subst hk_k1
   exact wxz<|Qaj<|frb h
  ·skip
   refine wxz<|Qar ?_
   refine wmr (mto (n:=16) (l':=[(0,(Q35 p0)),(3,I 0)]) (own':=[]) [(0,(Q35 p0)),(3,I 0)] [] [] hφ0 (pc (rnd Qam) (pw pn)) qn) ?_
   refine Qbt (τ:=Int) (fun n t=>Qdy N p0 k1 n t=some r) (fun y2=>⟨mk 16 [(0,(Q35 p0)),(3,I y2)],[]⟩) (fun t h=>by rw[Qdy] at h;cases h) (fun n4 ih y2 h=>?_) N (0) h
   rw[Qdy] at h
   skip
   refine wsq<|wx tbk [(2,rp _ _)] ⟨alq 4 Qah p0 underlying28,tv⟩ ?_
   refine bfe h (fun hc5 h=>?_) fun hc5 h=>?_
   ·refine wft hc5<|Qap<|thn<|wsq<|Qar ?_
    obtain⟨x6,hg7,h⟩:=bno h
    obtain⟨hi8,hj9⟩:=gsm hg7
    obtain⟨x11,hf10,h⟩:=bno h
    refine wx tbk [(2,rp _ _),(4,rp _ _)] ⟨aiq underlying28 ti89 Qah hi8 hj9,apv Zgk (Qn3 N x6 _ hf10) (nlc (NLt.agg _ (nlcc (nlcc nl0))) nl0) nll,tv⟩ ?_
    refine bfe h (fun hc12 h=>?_) fun hc12 h=>?_
    ·exact wft hc12<|wxz<|Qaj<|Qat<|Qal<|Qal<|Qat<|Qal<|frb h
    ·exact wfn hc12<|Qap<|bln<|thn<|wxz1<|thn<|arm (mto (n:=16) [(0,(Q35 p0)),(3,(I (w64 (y2+1))))] [] [] hφ0 (pc (rnd Qam) (pw pn)) qn) (ih (w64 (y2+1)) h)
   ·exact wfn hc5<|Qbf<|Qaw<|Qaw<|Qbe rfl<|thn<|⟨(),h,(mto (n:=16) [] [] [] hφ0 pn qn)⟩
def Qd2 (N:Nat) (p0:GNet) (p1:Int) (k2:Int→Option Int):Nat→Int→Int→Option Int
  |0,_,_=>none
  |n7+1,y3,y4=>
    bif (decide (y4<(p0.Elements.length:Int))) then
     (getI p0.Elements y4).bind fun x9=>
     bif (x9.Kind==p1) then
      Qd2 N p0 p1 k2 n7 (w64 (y3+1)) (w64 (y4+1))
     else
      Qd2 N p0 p1 k2 n7 y3 (w64 (y4+1))
    else
     k2 (y3)
def Qh0 (N:Nat) (p0:GNet) (p1:Int):Option Int:=
  Qbl (fun y1=>
    some y1) fun k2:Int→Option Int=>
  Qd2 N p0 p1 k2 N 0 0
def Zn5 (p0:GNet):AV:=.dat 7 (p0.Elements.map Qac)
def Qy4 (p0:GNet):Slot:=.own 2 [[(.dat 5 (p0.Table.map Qaq)),(Zn5 p0)]]
theorem Qlf (N:Nat) (p0:GNet) (p1 r:Int) (h:Qh0 N p0 p1=some r):Spec prog 29 [(.agg (Qf6 p0)),(K .u8 p1)] [] (I r) []:=by
  refine Qan func29 rfl 0 (nle rfl) (fun X φ0 w0 hφ0 hd0=>?_)
  unfold Qh0 at h
  refine wxz<|wxz ?_
  obtain⟨k2,hk_k2,h⟩:=jko h
  refine wjn (τ:=Int) (fun t=>k2 t=some r) (fun y1=>⟨mk 25 [(5,I y1)],[]⟩) (fun y1 h=>?_) ?_
  ·subst hk_k2
   refine wxz<|Qaj ?_
   obtain rfl:=osi h
   exact fend ⟨[I y1],⟨rot,tv⟩,rfl⟩ nll
  ·skip
   refine wxz<|Qar ?_
   refine wmr (mto (n:=25) (l':=[(1,(K .u8 p1)),(2,.ref 0 2 0 0),(5,I 0),(6,I 0)]) (own':=[(Qy4 p0)]) [(1,(K .u8 p1)),(2,.ref 0 2 0 0),(5,I 0),(6,I 0)] [0] [(Qy4 p0)] hφ0 (pw (prr (pw (pw pn)))) (qb (lc (rnd Qag) (lc (rnd Qab) ln)) qn)) ?_
   refine Qbt (τ:=Int×Int) (fun n t=>Qd2 N p0 p1 k2 n t.1 t.2=some r) (fun ⟨y3,y4⟩=>⟨mk 25 [(1,(K .u8 p1)),(2,.ref 0 2 0 0),(5,I y3),(6,I y4)],[(Qy4 p0)]⟩) (fun t h=>by rw[Qd2] at h;cases h) (fun n7 ih t h=>?_) N (0,0) h
   obtain⟨y3,y4⟩:=t
   rw[Qd2] at h
   skip
   refine wsq<|wx tbk [(3,rp _ _)] ⟨alq 7 Qac p0.Elements underlying24,tv⟩ ?_
   refine bfe h (fun hc8 h=>?_) fun hc8 h=>?_
   ·refine wft hc8<|Qap<|thn<|wsq<|Qar ?_
    obtain⟨x9,hg10,h⟩:=bno h
    obtain⟨hi11,hj12⟩:=gsm hg10
    refine wx tbk [(3,rp _ _)] ⟨aiq underlying24 ti59 Qac hi11 hj12,tv⟩ ?_
    refine bfe h (fun hc13 h=>?_) fun hc13 h=>?_
    ·exact wft hc13<|wxz1<|bln<|thn<|wxz1<|thn<|arm (mto (n:=25) [(1,(K .u8 p1)),(2,.ref 0 2 0 0),(5,(I (w64 (y3+1)))),(6,(I (w64 (y4+1))))] [0] [(Qy4 p0)] hφ0 (pw (prr (pw (pw pn)))) (qb (lc (rnd Qag) (lc (rnd Qab) ln)) qn)) (ih (w64 (y3+1),w64 (y4+1)) h)
    ·exact wfn hc13<|Qap<|bln<|thn<|wxz1<|thn<|arm (mto (n:=25) [(1,(K .u8 p1)),(2,.ref 0 2 0 0),(5,I y3),(6,(I (w64 (y4+1))))] [0] [(Qy4 p0)] hφ0 (pw (prr (pw (pw pn)))) (qb (lc (rnd Qag) (lc (rnd Qab) ln)) qn)) (ih (y3,w64 (y4+1)) h)
   ·exact wfn hc8<|Qbf<|Qaw<|Qaw<|Qbe rfl<|thn<|⟨(y3),h,(mto (n:=25) [(5,I y3)] [] [] hφ0 (pw pn) qn)⟩
def Qhr (N:Nat) (p0:GNet) (p1:List Qaa):Option Int:=
  Qbl (fun _=>
    (Qmh N p1).bind fun x3=>
    bif (decide (x3.Mass>1000000)) then
     some 3
    else
     bif (decide (x3.Gas>1000000000)) then
      some 3
     else
      some 0) fun k1:Unit→Option Int=>
  (Qh0 N p0 1).bind fun x7=>
  bif ((p1.length:Int) != x7) then
   some 1
  else
   (Qim N p1).bind fun x10=>
   bif (!x10) then
    some 1
   else
    k1 ()
def Q34 (p1:List Qaa):AV:=.dat 4 (p1.map Qah)
def Zn4 (p0:GNet):AV:=.dat 7 (p0.Elements.map Qac)
def Q9q (p1:List Qaa) (p0:GNet) (x7:Int):List (Nat×Rec):=[(1,rp [((.tmp 6),(Q34 p1))] (I ((p1.length:Int)))),(3,rp [fu 29,((.tmp 8),(.agg [(.dat 5 (p0.Table.map Qaq)),(Zn4 p0)])),((.const (.int .u8 1)),(K .u8 (1)))] (I x7))]
theorem Qpo (N:Nat) (p0:GNet) (p1:List Qaa) (r:Int) (h:Qhr N p0 p1=some r):Spec prog 61 [(.agg (Qf6 p0)),(.dat 4 (p1.map Qah))] [] (I r) []:=by
  refine Qan func61 rfl 0 (nle rfl) (fun X φ0 w0 hφ0 hd0=>?_)
  unfold Qhr at h
  refine wxz ?_
  obtain⟨k1,hk_k1,h⟩:=jko h
  refine wjn (τ:=Unit) (fun t=>k1 t=some r) (fun _=>⟨mk 26 [(1,(Q34 p1))],[]⟩) (fun t h=>?_) ?_
  ·subst hk_k1
   obtain⟨x3,hf2,h⟩:=bno h
   refine wx tbk [(1,rp _ _)] ⟨apv Zlw (Qxu N p1 _ hf2) (nlc (nld Qam _) nl0) (NLt.agg _ (nlcc (nlcc nl0))),tv⟩<|wsq ?_
   refine bfe h (fun hb4 h=>?_) fun hb4 h=>?_
   ·refine wx tbk [(3,rp [(.tmp 20,(B ((decide (x3.Mass>1000000)))))] (B true))] ⟨asb hb4 (amv rfl),tv⟩<|wtr<|wxz<|Qaj<|Qal ?_
    obtain rfl:=osi h
    exact fend ⟨[I 3],⟨rot,tv⟩,rfl⟩ nll
   ·refine wx tbk [(3,rp [(.tmp 20,(B ((decide (x3.Mass>1000000)))))] (B false))] ⟨asb hb4 (amv rfl),tv⟩ ?_
    refine bfe h (fun hc5 h=>?_) fun hc5 h=>?_
    ·refine wft hc5<|wxz<|Qaj<|Qal ?_
     obtain rfl:=osi h
     exact fend ⟨[I 3],⟨rot,tv⟩,rfl⟩ nll
    ·refine wfn hc5<|Qap<|thn<|wxz<|Qaj ?_
     obtain rfl:=osi h
     exact fend ⟨[I 0],⟨rot,tv⟩,rfl⟩ nll
  ·skip
   obtain⟨x7,hf6,h⟩:=bno h
   refine hpre (A:=(Q9q p1 p0 x7)) ⟨alq 4 Qah p1 underlying28,apv Q2j (Qlf N p0 1 _ hf6) (nlc (NLt.agg _ (nlc (nld Qag _) (nlc (nld Qab _) nl0))) (nlc nll nl0)) nll,tv⟩ fun q1_=>?_
   refine bfe h (fun hb8 h=>?_) fun hb8 h=>?_
   ·refine wx tbk (hcat (Q9q p1 p0 x7) [(5,rp [(.tmp 10,(B (((p1.length:Int) != x7))))] (B true))]) (hap q1_ ⟨asb hb8 (amv rfl),tv⟩)<|wtr<|wxz<|Qaj<|Qal ?_
    obtain rfl:=osi h
    exact fend ⟨[I 1],⟨rot,tv⟩,rfl⟩ nll
   ·obtain⟨x10,hf9,h⟩:=bno h
    refine wx tbk (hcat (Q9q p1 p0 x7) [(5,rp [(.tmp 10,(B (((p1.length:Int) != x7))))] (B false)),(7,rp [(.tmp 11,B false),fu 98,(.tmp 12,(Q34 p1))] (B x10))]) (hap q1_ ⟨asb hb8 (amv rfl),ag_ (apv Zla (Qro N p1 _ hf9) (nlc (nld Qam _) nl0) nll),tv⟩) ?_
    refine bfe h (fun hc11 h=>?_) fun hc11 h=>?_
    ·refine wft hc11<|wxz<|Qaj<|Qal ?_
     obtain rfl:=osi h
     exact fend ⟨[I 1],⟨rot,tv⟩,rfl⟩ nll
    ·exact wfn hc11<|Qap<|thn<|⟨(),h,(mto (n:=26) [(1,(Q34 p1))] [] [] hφ0 (pc (rnd Qam) pn) qn)⟩
end
section
open Go.RowKit
end
section
open Go.RowKit
theorem Zab (N:Nat) (l:List Qaa) (k:Int×Int×Int×Int→Option Qaa) (hl:l.length≤1000000):∀(n i:Nat) (a b c d:Int),(l.drop i).length<n →
  Qft N l k n i (w64 a) (w64 b) (w64 c) (w64 d)=k (w64 (a+(totS (l.drop i)).Mass),w64 (b+(totS (l.drop i)).Heat),w64 (c+(totS (l.drop i)).Silica),w64 (d+(totS (l.drop i)).Gas)):=by
 intro n
 induction n with
 |zero=>intro i _ _ _ _ h;cases h
 |succ n ih=>
  intro i a b c d h
  rw[Qft]
  cases hd:l.drop i with
  |nil=>
   have:=Qb2 hd
   simp[show ¬((i:Int)<l.length) from by omega,totS]
  |cons x q=>
   obtain⟨hg,hd',hlt⟩:=Qbp hd
   simp only[dlI hlt,cond_true,Qb1 hg,Option.bind_some,Qnv]
   rw[w64S (i:=i) (by omega),ih (i+1) _ _ _ _ (dlt hd hd' h),hd']
   simp only[totS,List.map_cons,List.sum_cons,Int.add_assoc]
theorem Zkg {N:Nat}{l:List Qaa}(hl:l.length≤1000) (hN:1001≤N):Qmh N l=some (totW l):=by
 unfold Qmh
 simp only[Qbl]
 have:=Zab N l (fun x=>match x with |(y1,y2,y3,y4)=>some (⟨y1,y2,y3,y4⟩:Qaa)) (by omega) N 0 0 0 0 0 (by simp;omega)
 rw[Qxg,List.drop_zero] at this
 refine this.trans ?_
 simp[totW]
section
variable {N : Nat} {s : Qaa} {ws : List Int} (hs : StrV s) (h : WtsV ws) (hN : 1001 ≤ N)
include h in
include hs h in
include hs h in
include hs h hN in
include hs in
include hs h in
include hs h hN in
end
end
section
open Go.RowKit
theorem Q6n (N:Nat) (s:List Int) (k:Unit→Option Bool) (hl:s.length≤1000):∀(m i:Nat),(s.drop i).length<m →
  Qdb N k s m i=bif (s.drop i).all (fun x=>btw x 0 1000000000000) then k () else some false:=by
 intro m
 induction m with
 |zero=>intro i h;cases h
 |succ m ih=>
  intro i h
  rw[Qdb]
  cases hd:s.drop i with
  |nil=>
   have:=Qb2 hd
   simp[show ¬((i:Int)<s.length) from by omega]
  |cons x l=>
   obtain⟨hg,hd',hlt⟩:=Qbp hd
   simp only[dlI hlt,cond_true,Qb1 hg,Option.bind_some,Q2d,List.all_cons]
   cases btw x 0 1000000000000 with
   |false=>rfl
   |true=>rw[Bool.not_true,cond_false,w64S (i:=i) (by omega),ih (i+1) (dlt hd hd' h),hd',Bool.true_and]
theorem Q6p {N:Nat}{n:GNet}{s:List Int}(hl:s.length≤1000) (hN:1001≤N):Qg6 N n s=some (stB n s):=by
 unfold Qg6 stB
 simp only[Qbl]
 have:=Q6n N s (fun _=>some ((s.length:Int)==(n.Elements.length:Int))) hl N 0 (by simp;omega)
 rw[List.drop_zero] at this
 refine this.trans ?_
 have e:((s.length:Int)==(n.Elements.length:Int))=decide (s.length=n.Elements.length):=by
  by_cases h:s.length=n.Elements.length
  ·rw[h];simp
  ·rw[decide_eq_false h,beq_eq_false_iff_ne];omega
 rw[e]
 cases s.all fun x=>btw x 0 1000000000000<;>simp
theorem Zad (N:Nat) (l:List Qaa) (k:Unit→Option Bool) (hl:l.length≤1000):∀(m i:Nat),(l.drop i).length<m →
  Qdy N l k m i=bif (l.drop i).all strB then k () else some false:=by
 intro m
 induction m with
 |zero=>intro i h;cases h
 |succ m ih=>
  intro i h
  rw[Qdy]
  cases hd:l.drop i with
  |nil=>
   have:=Qb2 hd
   simp[show ¬((i:Int)<l.length) from by omega]
  |cons x q=>
   obtain⟨hg,hd',hlt⟩:=Qbp hd
   simp only[dlI hlt,cond_true,Qb1 hg,Option.bind_some,Zav,List.all_cons]
   cases strB x with
   |false=>rfl
   |true=>rw[Bool.not_true,cond_false,w64S (i:=i) (by omega),ih (i+1) (dlt hd hd' h),hd',Bool.true_and]
theorem Zer {N:Nat}{l:List Qaa}(hl:l.length≤1000) (hN:1001≤N):Qim N l=some (l.all strB):=by
 unfold Qim
 simp only[Qbl]
 refine(Zad N l _ hl N 0 (by simp;omega)).trans ?_
 rw[List.drop_zero]
 cases l.all strB<;>rfl
theorem Q64 (N:Nat) (n:GNet) (c:Int) (k:Int→Option Int) (hl:n.Elements.length≤1000):∀(m i:Nat) (a:Int),(n.Elements.drop i).length<m→0≤a→a≤i →
  Qd2 N n c k m a i=k (a+(((n.Elements.drop i).filter fun x=>decide (x.Kind=c)).length:Int)):=by
 intro m
 induction m with
 |zero=>intro i _ h;cases h
 |succ m ih=>
  intro i a h a0 a1
  rw[Qd2]
  cases hd:n.Elements.drop i with
  |nil=>
   have:=Qb2 hd
   simp[show ¬((i:Int)<n.Elements.length) from by omega]
  |cons x q=>
   obtain⟨hg,hd',hlt⟩:=Qbp hd
   simp only[dlI hlt,cond_true,Qb1 hg,Option.bind_some]
   rw[w64S (i:=i) (by omega),List.filter_cons]
   by_cases hk:x.Kind=c
   ·rw[show(x.Kind==c)=true by simpa using hk,cond_true,Qcg (x:=a+1) (by omega) (by omega),ih (i+1) _ (dlt hd hd' h) (by omega) (by omega),hd',if_pos (by simpa using hk),List.length_cons]
    congr 1
    omega
   ·rw[show(x.Kind==c)=false by simpa using hk,cond_false,ih (i+1) _ (dlt hd hd' h) (by omega) (by omega),hd',if_neg (by simpa using hk)]
def cntK (n:GNet) (c:Int):Nat:=(n.Elements.filter fun x=>decide (x.Kind=c)).length
theorem Qs4 {N:Nat}{n:GNet}(c:Int) (hl:n.Elements.length≤1000) (hN:1001≤N):Qh0 N n c=some (cntK n c:Int):=by
 unfold Qh0
 simp only[Qbl]
 refine(Q64 N n c _ hl N 0 0 (by simp;omega) (Int.le_refl _) (by simp)).trans ?_
 rw[List.drop_zero,Int.zero_add]
 rfl
theorem Zcs (n:GNet):cntK n 1=wcn n n.Elements.length:=by unfold cntK wcn;rw[List.take_length]
end
section
open Go.RowKit
section
variable {N : Nat} {n : GNet} (hs : Qib n) (hN : 1001 ≤ N) (hv : NetV n) {ws : List Qaa} (hf : FedV n ws) {i : Nat} {o : List (List Qaa)} {ls : List Qbg} (hI : InvT n ws i o ls) {x : Qae} (hx : n.Elements[i]? = some x)
include hv hI hx in
end
section
variable {N : Nat} {n : GNet} (hs : Qib n) (hN : 1001 ≤ N) (hv : NetV n) {ws : List Qaa} (hf : FedV n ws) {st : List Int} (hst : StV n st)
set_option maxHeartbeats 2000000 in
include hs hN hv hf hst in
include hs hN hv hf hst in
end
end
section
open Go.RowKit
theorem Q48 (i:Nat):∀(r:List Qaa) (j:Nat),Qpv i j r=(List.range r.length).map fun k:Nat=>(((i:Int),((j+k:Nat):Int)),r.getD k zs)
 |[],_=>rfl
 |x::r,j=>by
  rw[Qpv,Q48 i r (j+1),List.length_cons,List.range_succ_eq_map,List.map_cons,List.map_map]
  congr 1
  apply List.map_congr_left
  intro k _
  simp[show j+1+k=j+(k+1) by omega]
theorem Qwl (O:List (List Qaa)):∀(els:List Qae) (o pre:List (List Qaa)),O=pre++o→els.length=o.length→(∀(k:Nat) y r,els[k]? = some y→o[k]? = some r→(r.length:Int)=outl y) →
  Qh8 pre.length o=(Qzr pre.length els).map fun p=>(pq p,Qhw O p)
 |[],[],_,_,_,_=>rfl
 |x::els,r::o,pre,hO,hl,hr=>by
  have h1:=hr 0 x r rfl rfl
  have ih:=Qwl O els o (pre++[r]) (by rw[hO];simp) (by simpa using hl) fun k y q hy hq=>hr (k+1) y q (by simpa using hy) (by simpa using hq)
  rw[List.length_append,List.length_singleton] at ih
  rw[Qh8,Qzr,List.map_append,ih,Q48,List.map_map,show(outl x).toNat=r.length by omega]
  congr 1
  apply List.map_congr_left
  intro k hk
  have hk':=List.mem_range.1 hk
  have hg:O.getD pre.length []=r:=by rw[hO,List.getD_eq_getElem?_getD,List.getElem?_append_right (Nat.le_refl _),Nat.sub_self];rfl
  simp only[Function.comp,pq,Qhw,Int.toNat_natCast,hg,Nat.zero_add]
 |[],_::_,_,_,h,_=>by simp at h
 |_::_,[],_,_,h,_=>by simp at h
section
variable {n : GNet} (hv : NetV n) {ws : List Qaa} {o : List (List Qaa)} {ls : List Qbg} (hI : InvT n ws n.Elements.length o ls)
include hI
theorem Za6:Qh8 0 o=(Qzr 0 n.Elements).map fun p=>(pq p,Qhw o p):=Qwl o n.Elements o [] rfl hI.lo.symm hI.rows
theorem Zkx {p:Qbk}(hp:p∈Zl0 n):0≤p.Element∧0≤p.Outlet∧∃r,o[p.Element.toNat]? = some r∧r[p.Outlet.toNat]? = some (Qhw o p):=by
 have h1:(pq p,Qhw o p)∈Qh8 0 o:=by
  rw[Za6 hI]
  exact List.mem_map.2 ⟨p,(List.mem_filter.1 hp).1,rfl⟩
 obtain⟨a,b,r,c,d⟩:=Qn8.1 h1
 refine⟨by simpa using a,b,r,?_,d⟩
 rw[show(p.Element-((0:Nat):Int)).toNat=p.Element.toNat by simp] at c
 exact c
end
theorem Qzc (N:Nat) (l:List Qaa) (k:List Qaa→Option (List Qaa)) (hl:l.length≤1000):∀(m i:Nat) (acc:List Qaa),(l.drop i).length<m→acc.length=i→Qd0 N l k m acc i=k (acc++l.drop i):=by
 intro m
 induction m with
 |zero=>intro i _ h;cases h
 |succ m ih=>
  intro i acc h ha
  rw[Qd0]
  cases hd:l.drop i with
  |nil=>
   have:=Qb2 hd
   simp[show ¬((i:Int)<l.length) from by omega]
  |cons p q=>
   obtain⟨hg,hd',hlt⟩:=Qbp hd
   simp only[dlI hlt,cond_true,Qb1 hg,Qk4,Option.bind_some,chk]
   rw[show decide ((acc.length+[p].length)*32≤140737488355328)=true by simp;omega,cond_true,w64S (i:=i) (by omega),
    ih (i+1) _ (dlt hd hd' h) (by simp[ha]),hd',List.append_assoc]
   rfl
theorem Qv6 {N:Nat}{l:List Qaa}(hl:l.length≤1000) (hN:1001≤N):Qhu N l=some l:=by
 unfold Qhu
 simp only[Qbl]
 refine(Qzc N l _ hl N 0 [] (by simp;omega) rfl).trans ?_
 rw[List.drop_zero,List.nil_append]
end
section
open Go.RowKit
theorem Qy6:Qej 2000=some true:=by decide +kernel
end
section
open Go.RowKit
theorem Q0n {N:Nat}{n:GNet}(hs:Qib n) (hN:1001≤N) {ws:List Qaa}(hl:ws.length≤1000):Qhr N n ws=some (fedI n ws):=by
 have e0:=hs.e
 unfold Qhr fedI
 simp only[Qbl,Qs4 1 (show n.Elements.length≤1000 by omega) hN,Option.bind_some,Zcs,Zer hl hN,Zkg hl hN]
 by_cases h1:ws.length=wcn n n.Elements.length
 ·rw[decide_eq_true h1,show((ws.length:Int) != (wcn n n.Elements.length:Int))=false by rw[bne_eq_false_iff_eq];omega]
  cases ha:ws.all strB with
  |false=>rfl
  |true=>
   have hall:∀s∈ws,StrV s:=fun s h=>Qol.1 (List.all_eq_true.1 ha s h)
   rw[Qtl hall hl]
   simp only[cond_false,Bool.not_true,Bool.true_and,cond_true]
   by_cases h2:(totS ws).Mass>1000000
   ·rw[decide_eq_true h2,if_pos h2];rfl
   ·rw[decide_eq_false h2,if_neg h2]
    by_cases h3:(totS ws).Gas>1000000000
    ·rw[decide_eq_true h3,if_pos h3];rfl
    ·rw[decide_eq_false h3,if_neg h3];rfl
 ·rw[decide_eq_false h1,show((ws.length:Int) != (wcn n n.Elements.length:Int))=true by rw[bne_iff_ne];omega];rfl
end
section
set_option maxRecDepth 100000
set_option maxHeartbeats 4000000
open Go.RowKit
def Qe3 (N:Nat) (k1:Unit→Option Bool) (p1:List (List Qaa)):Nat→Int→Option Bool
  |0,_=>none
  |n7+1,y5=>
    bif (decide (y5<(p1.length:Int))) then
     (getI p1 y5).bind fun x9=>
     bif (decide ((x9.length:Int)>25)) then
      some false
     else
      Qe3 N k1 p1 n7 (w64 (y5+1))
    else
     k1 ()
def Qk6 (N:Nat) (p0:GNet) (p1:List (List Qaa)):Option Bool:=
  Qbl (fun _=>
    (Qk7 N p0 ([])).bind fun x3=>
    bif x3 then
     some (decide ((p1.length:Int)≤8))
    else
     some false) fun k1:Unit→Option Bool=>
  Qe3 N k1 p1 N 0
def Qth (p1:List (List Qaa)):AV:=.dat 1 (p1.map Qak)
def Qv1 (p0:GNet):Slot:=.own 2 [[(.dat 5 (p0.Table.map Qaq)),(.dat 7 (p0.Elements.map Qac))]]
def Zig (p0:GNet):AV:=.agg [(.dat 5 (p0.Table.map Qaq)),(.dat 7 (p0.Elements.map Qac))]
def Q1p (p0:GNet) (x3:Bool):List (Nat×Rec):=[(1,rp [fu 14,((.tmp 18),(Zig p0)),((.const (.slice none 0 0)),nilS)] (B x3))]
def Znx:AV:=.dat 4 (([]:List Qaa).map Qah)
theorem Qx7 (N:Nat) (p0:GNet) (p1:List (List Qaa)) (r:Bool) (h:Qk6 N p0 p1=some r):Spec prog 39 [(.agg (Qf6 p0)),(.dat 1 (p1.map Qak))] [] (B r) []:=by
  refine Qan func39 rfl 0 (nle rfl) (fun X φ0 w0 hφ0 hd0=>?_)
  unfold Qk6 at h
  refine wxz ?_
  obtain⟨k1,hk_k1,h⟩:=jko h
  refine wjn (τ:=Unit) (fun t=>k1 t=some r) (fun _=>⟨mk 25 [(1,(Qth p1)),(2,.ref 0 2 0 0)],[(Qv1 p0)]⟩) (fun t h=>?_) ?_
  ·subst hk_k1
   obtain⟨x3,hf2,h⟩:=bno h
   refine hpre (A:=(Q1p p0 x3)) ⟨awk (rd':=(.func 14,(.fn (.func 14) [] []))::[(.tmp 18,(Zig p0)),((.const (.slice none 0 0)),Znx)]) ⟨rfl,lrf,rfl,lrf,rfl,Less.nil,tv⟩ (apv Zlz (Qx8 N p0 ([]) _ hf2) (nlc (NLt.agg _ (nlc (nld Qag _) (nlc (nld Qab _) nl0))) (nlc (nld Qam _) nl0)) nll),tv⟩ fun q1_=>?_
   refine bfe h (fun hb4 h=>?_) fun hb4 h=>?_
   ·refine wx tbk (hcat (Q1p p0 x3) [(2,rp [(.tmp 19,B x3)] (B true)),(4,rp [(.tmp 20,B true),(.tmp 21,(Qth p1))] (I ((p1.length:Int))))]) (hap q1_ ⟨asb hb4 (amv rfl),ag_ (alq 1 Qak p1 underlying49),tv⟩)<|Qaj ?_
    obtain rfl:=osi h
    exact fend ⟨[(B ((decide ((p1.length:Int)≤8))))],⟨rot,tv⟩,rfl⟩ nll
   ·exact wx tbk (hcat (Q1p p0 x3) [(2,rp [(.tmp 19,B x3)] (B false))]) (hap q1_ ⟨asb hb4 (amv rfl),tv⟩)<|Qaj<|frb h
  ·skip
   refine wxz<|Qar ?_
   refine wmr (mto (n:=25) (l':=[(1,(Qth p1)),(2,.ref 0 2 0 0),(5,I 0)]) (own':=[(Qv1 p0)]) [(1,(Qth p1)),(2,.ref 0 2 0 0),(5,I 0)] [0] [(Qv1 p0)] hφ0 (pc (rnd Qai) (prr (pw pn))) (qb (lc (rnd Qag) (lc (rnd Qab) ln)) qn)) ?_
   refine Qbt (τ:=Int) (fun n t=>Qe3 N k1 p1 n t=some r) (fun y5=>⟨mk 25 [(1,(Qth p1)),(2,.ref 0 2 0 0),(5,I y5)],[(Qv1 p0)]⟩) (fun t h=>by rw[Qe3] at h;cases h) (fun n7 ih y5 h=>?_) N (0) h
   rw[Qe3] at h
   skip
   refine wsq<|wx tbk [(2,rp _ _)] ⟨alq 1 Qak p1 underlying49,tv⟩ ?_
   refine bfe h (fun hc8 h=>?_) fun hc8 h=>?_
   ·refine wft hc8<|Qap<|thn<|wsq<|Qar ?_
    obtain⟨x9,hg10,h⟩:=bno h
    obtain⟨hi11,hj12⟩:=gsm hg10
    refine wx tbk [(2,rp _ _),(4,rp _ _)] ⟨aiq underlying49 ti28 Qak hi11 hj12,alq 4 Qah x9 underlying28,tv⟩ ?_
    refine bfe h (fun hc13 h=>?_) fun hc13 h=>?_
    ·exact wft hc13<|wxz<|Qaj<|Qat<|Qal<|Qal<|Qat<|Qal<|frb h
    ·exact wfn hc13<|Qap<|bln<|thn<|wxz1<|thn<|arm (mto (n:=25) [(1,(Qth p1)),(2,.ref 0 2 0 0),(5,(I (w64 (y5+1))))] [0] [(Qv1 p0)] hφ0 (pc (rnd Qai) (prr (pw pn))) (qb (lc (rnd Qag) (lc (rnd Qab) ln)) qn)) (ih (w64 (y5+1)) h)
   ·exact wfn hc8<|Qbf<|Qaw<|Qaw<|Qbe rfl<|thn<|⟨(),h,(mto (n:=25) [(1,(Qth p1)),(2,.ref 0 2 0 0)] [0] [(Qv1 p0)] hφ0 (pc (rnd Qai) (prr pn)) (qb (lc (rnd Qag) (lc (rnd Qab) ln)) qn))⟩
def Qez (N:Nat) (p0:List (List Qaa)) (k2:(List (List Qaa))→Option (List (List Qaa))):Nat→(List (List Qaa))→Int→Option (List (List Qaa))
  |0,_,_=>none
  |n7+1,y3,y4=>
    bif (decide (y4<(p0.length:Int))) then
     (getI p0 y4).bind fun x9=>
     (Qhu N x9).bind fun x14=>
     chk (decide ((y3.length+([x14]).length)*24≤140737488355328))<|
     Qez N p0 k2 n7 (y3++([x14])) (w64 (y4+1))
    else
     k2 (y3)
def Qi2 (N:Nat) (p0:List (List Qaa)):Option (List (List Qaa)):=
  Qbl (fun y1=>
    some y1) fun k2:(List (List Qaa))→Option (List (List Qaa))=>
  Qez N p0 k2 N ([]) 0
def Q3v (p0:List (List Qaa)):AV:=.dat 1 (p0.map Qak)
theorem Qob (N:Nat) (p0 r:List (List Qaa)) (h:Qi2 N p0=some r):Spec prog 41 [(.dat 1 (p0.map Qak))] [] (.dat 1 (r.map Qak)) []:=by
  refine Qan func41 rfl 0 (nle rfl) (fun X φ0 w0 hφ0 hd0=>?_)
  unfold Qi2 at h
  refine wxz<|wxz ?_
  obtain⟨k2,hk_k2,h⟩:=jko h
  refine wjn (τ:=(List (List Qaa))) (fun t=>k2 t=some r) (fun y1=>⟨mk 20 [(3,(.acc 0 45 1 (y1.map Qak)))],[.tok]⟩) (fun y1 h=>?_) ?_
  ·subst hk_k2
   refine wxz<|Qaj ?_
   obtain rfl:=osi h
   exact fend ⟨[(.dat 1 (y1.map Qak))],⟨Qb3 (v:=(.acc 0 45 1 (y1.map Qak))) rot Less.acc,tv⟩,rfl⟩ (nld Qai _)
  ·skip
   refine wxz<|Qar ?_
   refine wmr (Mor.trans (Qps 0 45 1 3 (by kernel_rfl) (by kernel_rfl)) (mto (n:=20) (l':=[(0,(Q3v p0)),(3,(.acc 0 45 1 ((([]):List (List Qaa)).map Qak))),(4,I 0)]) (own':=[.tok]) [(0,(Q3v p0)),(3,(.acc 0 45 1 (([]:List (List Qaa)).map Qak))),(4,I 0)] [0] [.tok] hφ0 (pc (rnd Qai) (pc (.rn (Qcv rfl (Qb5 Qai _))) (pw pn))) (qc .tok qn))) ?_
   refine Qbt (τ:=(List (List Qaa))×Int) (fun n t=>Qez N p0 k2 n t.1 t.2=some r) (fun ⟨y3,y4⟩=>⟨mk 20 [(0,(Q3v p0)),(3,(.acc 0 45 1 (y3.map Qak))),(4,I y4)],[.tok]⟩) (fun t h=>by rw[Qez] at h;cases h) (fun n7 ih t h=>?_) N ([],0) h
   obtain⟨y3,y4⟩:=t
   rw[Qez] at h
   skip
   refine wsq<|wx tbk [(2,rp _ _)] ⟨alq 1 Qak p0 underlying49,tv⟩ ?_
   refine bfe h (fun hc8 h=>?_) fun hc8 h=>?_
   ·refine wft hc8<|Qap<|thn<|wsq<|Qar ?_
    obtain⟨x9,hg10,h⟩:=bno h
    obtain⟨hi11,hj12⟩:=gsm hg10
    obtain⟨x14,hf13,h⟩:=bno h
    obtain⟨ha15,h⟩:=cko h
    refine wx1 tbk [(3,rp _ _),(5,rp _ _),(6,rp [(.tmp 16,(.dat 4 (x14.map Qah)))] (.dat 1 (([x14]:List (List Qaa)).map Qak))),(7,⟨[(.tmp 11,(.acc 0 45 1 (y3.map Qak))),(.tmp 17,(.dat 1 (([x14]:List (List Qaa)).map Qak)))],[(0,.tok),(1,.unused)],(.acc 1 45 1 ((y3++([x14]):List (List Qaa)).map Qak)),[(0,.dead),(1,.tok)],false⟩)] ⟨aiq underlying49 ti28 Qak hi11 hj12,apv Zci (Qmu N x9 _ hf13) (nlc (nld Qam _) nl0) (nld Qam _),Qbz (vs:=[(.dat 4 (x14.map Qah))]) rfl underlying31 ti45 tz45 rfl (by decide) rfl (by decide) (by rfl) (by rfl) (by rfl) rfl,Qek rfl underlying31 te45 (Base.acc _ _) rfl rfl (by rfl) (Qhl Qak ha15) (Qhk Qak ha15 (by decide)) (Qhj Qak) rfl rfl,tv⟩<|bln<|thn<|wxz1<|thn ?_
    exact arm (mto (n:=20) [(0,(Q3v p0)),(3,(.acc 1 45 1 ((y3++([x14]):List (List Qaa)).map Qak))),(4,(I (w64 (y4+1))))] [1] [.tok] hφ0 (pc (rnd Qai) (pc (.rn (Qcv rfl (Qb5 Qai _))) (pw pn))) (qc .tok qn)) (ih (y3++([x14]),w64 (y4+1)) h)
   ·exact wfn hc8<|Qbf<|Qaw<|Qaw<|Qbe rfl<|thn<|⟨(y3),h,(mto (n:=20) [(3,(.acc 0 45 1 (y3.map Qak)))] [0] [.tok] hφ0 (pc (.rn (Qcv rfl (Qb5 Qai _))) pn) (qc .tok qn))⟩
def Qfd (N:Nat) (p0:GNet) (p2:List (List Qaa)) (k7:Unit→Option Int):Nat→Int→Option Int
  |0,_=>none
  |n10+1,y8=>
    bif (decide (y8<(p2.length:Int))) then
     (getI p2 y8).bind fun x12=>
     (Qif N p0 x12).bind fun x17=>
     bif (x17 != 0) then
      some x17
     else
      Qfd N p0 p2 k7 n10 (w64 (y8+1))
    else
     k7 ()
def Qju (N:Nat) (p0:GNet) (p1:List Int) (p2:List (List Qaa)):Option Int:=
  (Qiy N p0 p1).bind fun x2=>
  bif (x2 != 0) then
   some x2
  else
   (Qcw N (p2.length:Int) 1 6).bind fun x5=>
   bif (!x5) then
    some 3
   else
    Qbl (fun _=>
      some 0) fun k7:Unit→Option Int=>
    Qfd N p0 p2 k7 N 0
def Q3t (p2:List (List Qaa)):AV:=.dat 1 (p2.map Qak)
def Q3u (p0:GNet):Slot:=.own 2 [[(.dat 5 (p0.Table.map Qaq)),(.dat 7 (p0.Elements.map Qac))]]
theorem Qo9 (N:Nat) (p0:GNet) (p1:List Int) (p2:List (List Qaa)) (r:Int) (h:Qju N p0 p1 p2=some r):Spec prog 77 [(.agg (Qf6 p0)),(.dat 1 (p1.map Qad)),(.dat 1 (p2.map Qak))] [] (I r) []:=by
  refine Qan func77 rfl 0 (nle rfl) (fun X φ0 w0 hφ0 hd0=>?_)
  unfold Qju at h
  refine wxz<|wsq ?_
  obtain⟨x2,hf1,h⟩:=bno h
  refine wx tbk [(2,rp _ _)] ⟨apv Zcd (Qn6 N p0 p1 _ hf1) (nlc (NLt.agg _ (nlc (nld Qag _) (nlc (nld Qab _) nl0))) (nlc (nld Qaf _) nl0)) nll,tv⟩<|wxz ?_
  refine bfe h (fun hc3 h=>?_) fun hc3 h=>?_
  ·refine wft hc3<|wxz<|Qaj<|Qal ?_
   obtain rfl:=osi h
   exact fend ⟨[I x2],⟨rot,tv⟩,rfl⟩ nll
  ·refine wfn hc3<|Qap<|thn<|wsq ?_
   obtain⟨x5,hf4,h⟩:=bno h
   refine wx tbk [(1,rp _ _),(2,rp _ _)] ⟨alq 1 Qak p2 underlying31,apv Qlm (Qdq N (p2.length:Int) 1 6 _ hf4) (nlcc (nlc nll nl0)) nll,tv⟩ ?_
   refine bfe h (fun hc6 h=>?_) fun hc6 h=>?_
   ·refine wft hc6<|wxz<|Qaj<|Qal ?_
    obtain rfl:=osi h
    exact fend ⟨[I 3],⟨rot,tv⟩,rfl⟩ nll
   ·refine wfn hc6<|Qap<|thn ?_
    obtain⟨k7,hk_k7,h⟩:=jko h
    refine wjn (τ:=Unit) (fun t=>k7 t=some r) (fun _=>⟨mk 34 [],[]⟩) (fun t h=>?_) ?_
    ·subst hk_k7
     refine wxz<|Qaj ?_
     obtain rfl:=osi h
     exact fend ⟨[I 0],⟨rot,tv⟩,rfl⟩ nll
    ·skip
     refine wx tbk [(1,rp _ _)] ⟨alq 1 Qak p2 underlying31,tv⟩<|Qar ?_
     refine wmr (mto (n:=34) (l':=[(3,.ref 0 2 0 0),(21,(Q3t p2)),(22,(I ((p2.length:Int)))),(23,I 0)]) (own':=[(Q3u p0)]) [(3,.ref 0 2 0 0),(21,(Q3t p2)),(22,(I ((p2.length:Int)))),(23,I 0)] [0] [(Q3u p0)] hφ0 (prr (pc (rnd Qai) (pw (pw pn)))) (qb (lc (rnd Qag) (lc (rnd Qab) ln)) qn)) ?_
     refine Qbt (τ:=Int) (fun n t=>Qfd N p0 p2 k7 n t=some r) (fun y8=>⟨mk 34 [(3,.ref 0 2 0 0),(21,(Q3t p2)),(22,(I ((p2.length:Int)))),(23,I y8)],[(Q3u p0)]⟩) (fun t h=>by rw[Qfd] at h;cases h) (fun n10 ih y8 h=>?_) N (0) h
     rw[Qfd] at h
     skip
     refine wxz<|wsq ?_
     refine bfe h (fun hc11 h=>?_) fun hc11 h=>?_
     ·refine wft hc11<|Qap<|thn<|wsq<|Qar ?_
      obtain⟨x12,hg13,h⟩:=bno h
      obtain⟨hi14,hj15⟩:=gsm hg13
      refine wx tbk [(0,rp _ _)] ⟨aiq underlying31 ti45 Qak hi14 hj15,tv⟩ ?_
      obtain⟨x17,hf16,h⟩:=bno h
      refine wx tbk [(2,rp _ _)] ⟨apv Zb7 (Qnj N p0 x12 _ hf16) (nlc (NLt.agg _ (nlc (nld Qag _) (nlc (nld Qab _) nl0))) (nlc (nld Qam _) nl0)) nll,tv⟩<|wxz ?_
      refine bfe h (fun hc18 h=>?_) fun hc18 h=>?_
      ·refine wft hc18<|wxz<|Qaj<|Qat<|Qal<|Qal<|Qat<|Qal ?_
       obtain rfl:=osi h
       exact fend ⟨[I x17],⟨rot,tv⟩,rfl⟩ nll
      ·exact wfn hc18<|Qap<|bln<|thn<|wxz1<|thn<|arm (mto (n:=34) [(3,.ref 0 2 0 0),(21,(Q3t p2)),(22,(I ((p2.length:Int)))),(23,(I (w64 (y8+1))))] [0] [(Q3u p0)] hφ0 (prr (pc (rnd Qai) (pw (pw pn)))) (qb (lc (rnd Qag) (lc (rnd Qab) ln)) qn)) (ih (w64 (y8+1)) h)
     ·exact wfn hc11<|Qbf<|Qaw<|Qaw<|Qbe rfl<|thn<|⟨(),h,(mto (n:=34) [] [] [] hφ0 pn qn)⟩
def Qdi (N:Nat) (p0:GNet) (p1:List Int) (k2:(List Qdn)→Option ((List Qdn)×Bool)) (p2:List (List Qaa)):Nat→(List Qdn)→Int→Option ((List Qdn)×Bool)
  |0,_,_=>none
  |n7+1,y3,y4=>
    bif (decide (y4<(p2.length:Int))) then
     (getI p2 y4).bind fun x9=>
     (Qf3 N p0 p1 x9).bind (
      Sum.elim (fun x15=>
        bif (decide (x15≥0)) then
         some ([],false)
        else
         none)
      (fun x17=>
        bif (decide (x17.1≥0)) then
         some ([],false)
        else
         chk (decide ((p0.Elements.length:Int).toNat≤x17.2.2.1.length))<|
         chk (decide ((p0.Elements.length:Int).toNat≤x17.2.2.2.1.length))<|
         chk (decide (p1.length≤x17.2.2.2.2.length))<|
         chk (decide ((y3.length+([(⟨p0,(⟨x17.2.2.1.take ((p0.Elements.length:Int).toNat),x17.2.2.2.1.take ((p0.Elements.length:Int).toNat),x17.2.2.2.2.take p1.length⟩:Qhm),x9,x17.2.1⟩:Qdn)]).length)*8≤140737488355328))<|
         Qdi N p0 p1 k2 p2 n7 (y3++([(⟨p0,(⟨x17.2.2.1.take ((p0.Elements.length:Int).toNat),x17.2.2.2.1.take ((p0.Elements.length:Int).toNat),x17.2.2.2.2.take p1.length⟩:Qhm),x9,x17.2.1⟩:Qdn)])) (w64 (y4+1))))
    else
     k2 (y3)
def Qht (N:Nat) (p0:GNet) (p1:List Int) (p2:List (List Qaa)):Option ((List Qdn)×Bool):=
  Qbl (fun y1=>
    some (y1,true)) fun k2:(List Qdn)→Option ((List Qdn)×Bool)=>
  Qdi N p0 p1 k2 p2 N ([]) 0
def Qnh (p2:List (List Qaa)):AV:=.dat 1 (p2.map Qak)
def Qo6 (p0:GNet):AV:=.dat 5 (p0.Table.map Qaq)
def Qo5 (p0:GNet):AV:=.dat 7 (p0.Elements.map Qac)
def Qni (p0:GNet):Slot:=.own 2 [[(Qo6 p0),(Qo5 p0)]]
def Qlb (y3:List Qdn):AV:=.acc 1 136 1 (y3.map Qdo)
def Qo4 (p0:GNet):AV:=.agg [(Qo6 p0),(Qo5 p0)]
def Qdu (x9:List Qaa):AV:=.dat 4 (x9.map Qah)
def Znw:Slot:=.own 1 [[(.lit (.pointer none))]]
def Q9g:AV:=.dat 1 (([]:List Qdn).map Qdo)
def Qnt:Slot:=.own 1 [[(.ref 4 7 (0) 0)]]
def Q9j (p0:GNet) (p1:List Int) (x9:List Qaa) (x17:(Int×Int×(List (List Qaa))×(List Qbg)×(List Int))):Slot:=.own 7 [[(Qo6 p0),(Qo5 p0),(.own 5 1 (0) ((p0.Elements.length:Int).toNat)),(.own 6 4 (0) ((p0.Elements.length:Int).toNat)),(.own 7 1 (0) p1.length),(Qdu x9),(I x17.2.1)]]
def Qrg (x17:(Int×Int×(List (List Qaa))×(List Qbg)×(List Int))):Slot:=.own 1 (x17.2.2.2.2.map Qad)
def Qpg (x17:(Int×Int×(List (List Qaa))×(List Qbg)×(List Int))) (p0:GNet):AV:=.dat 1 ((x17.2.2.1.take ((p0.Elements.length:Int).toNat):List (List Qaa)).map Qak)
def Qtg (x17:(Int×Int×(List (List Qaa))×(List Qbg)×(List Int))) (p0:GNet):AV:=.dat 4 ((x17.2.2.2.1.take ((p0.Elements.length:Int).toNat):List Qbg).map Qa0)
def Q9i (p0:GNet) (x17:(Int×Int×(List (List Qaa))×(List Qbg)×(List Int))) (p1:List Int) (x9:List Qaa):AV:=.dat 1 (([(⟨p0,(⟨x17.2.2.1.take ((p0.Elements.length:Int).toNat),x17.2.2.2.1.take ((p0.Elements.length:Int).toNat),x17.2.2.2.2.take p1.length⟩:Qhm),x9,x17.2.1⟩:Qdn)]:List Qdn).map Qdo)
def Q9h (y3:List Qdn) (p0:GNet) (x17:(Int×Int×(List (List Qaa))×(List Qbg)×(List Int))) (p1:List Int) (x9:List Qaa):AV:=.acc 8 136 1 ((y3++([(⟨p0,(⟨x17.2.2.1.take ((p0.Elements.length:Int).toNat),x17.2.2.2.1.take ((p0.Elements.length:Int).toNat),x17.2.2.2.2.take p1.length⟩:Qhm),x9,x17.2.1⟩:Qdn)]):List Qdn).map Qdo)
theorem Qmm (N:Nat) (p0:GNet) (p1:List Int) (p2:List (List Qaa)) (r:((List Qdn)×Bool)) (h:Qht N p0 p1 p2=some r):Spec prog 78 [(.agg (Qf6 p0)),(.dat 1 (p1.map Qad)),(.dat 1 (p2.map Qak))] [] (.tup [(.dat 1 (r.1.map Qdo)),(B r.2)]) []:=by
  refine Qan func78 rfl 0 (nle rfl) (fun X φ0 w0 hφ0 hd0=>?_)
  unfold Qht at h
  refine wxz<|wxz ?_
  obtain⟨k2,hk_k2,h⟩:=jko h
  refine wjn (τ:=(List Qdn)) (fun t=>k2 t=some r) (fun y1=>⟨mk 34 [(8,(.acc 0 136 1 (y1.map Qdo)))],[.tok]⟩) (fun y1 h=>?_) ?_
  ·subst hk_k2
   refine wxz<|Qaj ?_
   obtain rfl:=osi h
   exact fend ⟨[(.dat 1 (y1.map Qdo)),B true],⟨Qb3 (v:=(.acc 0 136 1 (y1.map Qdo))) rot Less.acc,rot,tv⟩,rfl⟩ (NLt.tup _ (nlc (nld Qfb _) (nlc nll nl0)))
  ·skip
   refine wx tbk [(1,rp _ _)] ⟨alq 1 Qak p2 underlying31,tv⟩<|Qar ?_
   refine wmr (Mor.trans (Qps 1 136 1 8 (by kernel_rfl) (by kernel_rfl)) (mto (n:=34) (l':=[(1,(.dat 1 (p1.map Qad))),(3,.ref 0 2 0 0),(8,(.acc 1 136 1 ((([]):List Qdn).map Qdo))),(13,(Qnh p2)),(14,(I ((p2.length:Int)))),(15,I 0)]) (own':=[(Qni p0),.tok]) [(1,(.dat 1 (p1.map Qad))),(3,.ref 0 2 0 0),(8,(.acc 1 136 1 (([]:List Qdn).map Qdo))),(13,(Qnh p2)),(14,(I ((p2.length:Int)))),(15,I 0)] [0,1] [(Qni p0),.tok] hφ0 (pc (rnd Qaf) (prr (pc (.rn (Qcv rfl (Qb5 Qfb _))) (pc (rnd Qai) (pw (pw pn)))))) (qb (lc (rnd Qag) (lc (rnd Qab) ln)) (qc .tok qn)))) ?_
   refine Qbt (τ:=(List Qdn)×Int) (fun n t=>Qdi N p0 p1 k2 p2 n t.1 t.2=some r) (fun ⟨y3,y4⟩=>⟨mk 34 [(1,(.dat 1 (p1.map Qad))),(3,.ref 0 2 0 0),(8,(Qlb y3)),(13,(Qnh p2)),(14,(I ((p2.length:Int)))),(15,I y4)],[(Qni p0),.tok]⟩) (fun t h=>by rw[Qdi] at h;cases h) (fun n7 ih t h=>?_) N ([],0) h
   obtain⟨y3,y4⟩:=t
   rw[Qdi] at h
   skip
   refine wxz<|wsq ?_
   refine bfe h (fun hc8 h=>?_) fun hc8 h=>?_
   ·refine wft hc8<|Qap<|thn<|wsq<|Qar ?_
    obtain⟨x9,hg10,h⟩:=bno h
    obtain⟨hi11,hj12⟩:=gsm hg10
    refine wx tbk [(0,rp _ _)] ⟨aiq underlying31 ti45 Qak hi11 hj12,tv⟩ ?_
    obtain⟨x14,hf13,h⟩:=bno h
    rcases x14 with x15 |x17
    ·replace h:=Zkf h
     refine wx tbk [(3,⟨_,_,_,_,false⟩)] ⟨Qav (first:=[]) (cap:=[]) (vs:=[(Qo4 p0),(.dat 1 (p1.map Qad)),(Qdu x9)]) (σr:=[]) (σr':=[Znw,(.own 1 [[I x15]])]) (res':=(.tup [(.lit (.pointer none)),I x15])) [2,3] rfl Qye (Ql2 N p0 p1 x9 _ hf13) rfl (Qbs (rnc (.plain _ (NLt.agg _ (nlc (nld Qag _) (nlc (nld Qab _) nl0)))) (rnc (pld Qaf) (rnc (pld Qam) rn0)))) Qau (slc (Qas (rnc (.plain _ nll) rn0)) (slc (Qas (rnc (.plain _ nll) rn0)) Qau)) (.plain _ (NLt.tup _ (nlcc nl0))) rfl rfl rfl,tv⟩<|wsq<|wxz ?_
     refine bfe h (fun hc16 h=>?_) fun hc16 h=>?_
     ·refine wft hc16<|wxz<|Qaj<|Qal<|Qat<|Qal<|Qal<|Qat<|Qal ?_
      obtain rfl:=osi h
      exact fend ⟨[Q9g,B false],⟨Qb3 (v:=nilS) rot Less.nil,rot,tv⟩,rfl⟩ (NLt.tup _ (nlc (nld Qfb _) (nlc nll nl0)))
     ·refine wfn hc16<|Qap<|thn ?_
      cases h
    ·replace h:=Zke h
     refine wx tbk [(3,⟨_,_,_,_,false⟩)] ⟨Qav (first:=[]) (cap:=[]) (vs:=[(Qo4 p0),(.dat 1 (p1.map Qad)),(Qdu x9)]) (σr:=[]) (σr':=[Qnt,(.own 1 [[I x17.1]]),(Q9j p0 p1 x9 x17),(.own 1 (x17.2.2.1.map Qak)),(.own 4 (x17.2.2.2.1.map Qa0)),(Qrg x17)]) (res':=(.tup [.ref 4 7 0 0,I x17.1])) [2,3,4,5,6,7] rfl Qye (Ql1 N p0 p1 x9 _ hf13) rfl (Qbs (rnc (.plain _ (NLt.agg _ (nlc (nld Qag _) (nlc (nld Qab _) nl0)))) (rnc (pld Qaf) (rnc (pld Qam) rn0)))) Qau (slc (Qas (rnc (Qbb rfl) rn0)) (slc (Qas (rnc (.plain _ nll) rn0)) (slc (Qas (rnc (pld Qag) (rnc (pld Qab) (rnc (Qc0 rfl) (rnc (Qc0 rfl) (rnc (Qc0 rfl) (rnc (pld Qam) (rnc (.plain _ nll) rn0)))))))) (slc (Qa9 Qai) (slc (Qa9 Qa3) (slc (Qa9 Qaf) Qau)))))) (Zis (rnc (Qbb rfl) (rnc (.plain _ nll) rn0))) rfl rfl rfl,tv⟩<|wsq<|wxz ?_
     refine bfe h (fun hc18 h=>?_) fun hc18 h=>?_
     ·refine wft hc18<|wxz<|Qaj<|Qal<|Qat<|Qal<|Qal<|Qat<|Qal ?_
      obtain rfl:=osi h
      exact fend ⟨[Q9g,B false],⟨Qb3 (v:=nilS) rot Less.nil,rot,tv⟩,rfl⟩ (NLt.tup _ (nlc (nld Qfb _) (nlc nll nl0)))
     ·refine wfn hc18<|Qap<|thn ?_
      obtain⟨hz19,h⟩:=cko h
      refine wmr (Qx2 [(Qni p0),.tok,Qnt,(.own 1 [[I x17.1]]),(Q9j p0 p1 x9 x17),(.own 1 (x17.2.2.1.map Qak)),(.own 4 (x17.2.2.2.1.map Qa0)),(Qrg x17)] (Qx3 (n:=34) (m:=1) (xs:=x17.2.2.1.map Qak) (l':=[(1,(.dat 1 (p1.map Qad))),(3,.ref 0 2 0 0),(8,(Qlb y3)),(10,(Qdu x9)),(11,.ref 4 7 0 0),(12,I x17.1),(13,(Qnh p2)),(14,(I ((p2.length:Int)))),(15,I y4),(16,(B ((decide (y4<(p2.length:Int)))))),(17,(.dptr (Qak x9) 0)),(18,(Qdu x9)),(19,(.tup [.ref 4 7 0 0,I x17.1])),(20,(Qo4 p0)),(21,(.dat 1 (p1.map Qad))),(22,(Qdu x9)),(23,(.tup [.ref 4 7 0 0,I x17.1])),(24,.ref 4 7 0 0),(25,I x17.1),(26,I x17.1),(27,(B ((decide (x17.1≥0)))))]) (own':=[(Qni p0),.tok,Qnt,(.own 1 [[I x17.1]]),(.own 7 [[(Qo6 p0),(Qo5 p0),(Qpg x17 p0),(.own 6 4 (0) ((p0.Elements.length:Int).toNat)),(.own 7 1 (0) p1.length),(Qdu x9),I x17.2.1]]),.dead,(.own 4 (x17.2.2.2.1.map Qa0)),(Qrg x17)]) 5 [(1,(.dat 1 (p1.map Qad))),(3,.ref 0 2 0 0),(8,(Qlb y3)),(10,(Qdu x9)),(11,.ref 4 7 0 0),(12,I x17.1),(13,(Qnh p2)),(14,(I ((p2.length:Int)))),(15,I y4),(16,(B ((decide (y4<(p2.length:Int)))))),(17,(.dptr (Qak x9) 0)),(18,(Qdu x9)),(19,(.tup [.ref 4 7 0 0,I x17.1])),(20,(Qo4 p0)),(21,(.dat 1 (p1.map Qad))),(22,(Qdu x9)),(23,(.tup [.ref 4 7 0 0,I x17.1])),(24,.ref 4 7 0 0),(25,I x17.1),(26,I x17.1),(27,(B ((decide (x17.1≥0)))))] (by kernel_rfl) (by kernel_rfl) (by kernel_rfl) ⟨rfl,(.same _),rfl,(.same _),rfl,(.same _),rfl,(.same _),rfl,(.same _),rfl,(.same _),rfl,(.same _),rfl,(.same _),rfl,(.same _),rfl,(.same _),rfl,(.same _),rfl,(.same _),rfl,(.same _),rfl,(.same _),rfl,(.same _),rfl,(.same _),rfl,(.same _),rfl,(.same _),rfl,(.same _),rfl,(.same _),rfl,(.same _),tv⟩ (qc Qdk (qc Qdk (qc Qdk (qc Qdk (qc (Qsy (lc (.same _) (lc (.same _) (lc (Qmc hz19) (lc (.same _) (lc (.same _) (lc (.same _) (lc (.same _) ln)))))))) (qc .dead (qc Qdk (qc Qdk qn)))))))))) ?_
      obtain⟨hz20,h⟩:=cko h
      refine wmr (Qx2 [(Qni p0),.tok,Qnt,(.own 1 [[I x17.1]]),(.own 7 [[(Qo6 p0),(Qo5 p0),(Qpg x17 p0),(.own 6 4 (0) ((p0.Elements.length:Int).toNat)),(.own 7 1 (0) p1.length),(Qdu x9),I x17.2.1]]),.dead,(.own 4 (x17.2.2.2.1.map Qa0)),(Qrg x17)] (Qx3 (n:=34) (m:=4) (xs:=x17.2.2.2.1.map Qa0) (l':=[(1,(.dat 1 (p1.map Qad))),(3,.ref 0 2 0 0),(8,(Qlb y3)),(10,(Qdu x9)),(11,.ref 4 7 0 0),(12,I x17.1),(13,(Qnh p2)),(14,(I ((p2.length:Int)))),(15,I y4),(16,(B ((decide (y4<(p2.length:Int)))))),(17,(.dptr (Qak x9) 0)),(18,(Qdu x9)),(19,(.tup [.ref 4 7 0 0,I x17.1])),(20,(Qo4 p0)),(21,(.dat 1 (p1.map Qad))),(22,(Qdu x9)),(23,(.tup [.ref 4 7 0 0,I x17.1])),(24,.ref 4 7 0 0),(25,I x17.1),(26,I x17.1),(27,(B ((decide (x17.1≥0)))))]) (own':=[(Qni p0),.tok,Qnt,(.own 1 [[I x17.1]]),(.own 7 [[(Qo6 p0),(Qo5 p0),(Qpg x17 p0),(Qtg x17 p0),(.own 7 1 (0) p1.length),(Qdu x9),I x17.2.1]]),.dead,.dead,(Qrg x17)]) 6 [(1,(.dat 1 (p1.map Qad))),(3,.ref 0 2 0 0),(8,(Qlb y3)),(10,(Qdu x9)),(11,.ref 4 7 0 0),(12,I x17.1),(13,(Qnh p2)),(14,(I ((p2.length:Int)))),(15,I y4),(16,(B ((decide (y4<(p2.length:Int)))))),(17,(.dptr (Qak x9) 0)),(18,(Qdu x9)),(19,(.tup [.ref 4 7 0 0,I x17.1])),(20,(Qo4 p0)),(21,(.dat 1 (p1.map Qad))),(22,(Qdu x9)),(23,(.tup [.ref 4 7 0 0,I x17.1])),(24,.ref 4 7 0 0),(25,I x17.1),(26,I x17.1),(27,(B ((decide (x17.1≥0)))))] (by kernel_rfl) (by kernel_rfl) (by kernel_rfl) ⟨rfl,(.same _),rfl,(.same _),rfl,(.same _),rfl,(.same _),rfl,(.same _),rfl,(.same _),rfl,(.same _),rfl,(.same _),rfl,(.same _),rfl,(.same _),rfl,(.same _),rfl,(.same _),rfl,(.same _),rfl,(.same _),rfl,(.same _),rfl,(.same _),rfl,(.same _),rfl,(.same _),rfl,(.same _),rfl,(.same _),rfl,(.same _),tv⟩ (qc Qdk (qc Qdk (qc Qdk (qc Qdk (qc (Qsy (lc (.same _) (lc (.same _) (lc (.same _) (lc (Qmc hz20) (lc (.same _) (lc (.same _) (lc (.same _) ln)))))))) (qc Qdk (qc .dead (qc Qdk qn)))))))))) ?_
      obtain⟨hz21,h⟩:=cko h
      refine wmr (Qx2 [(Qni p0),.tok,Qnt,(.own 1 [[I x17.1]]),(.own 7 [[(Qo6 p0),(Qo5 p0),(Qpg x17 p0),(Qtg x17 p0),(.own 7 1 (0) p1.length),(Qdu x9),I x17.2.1]]),.dead,.dead,(Qrg x17)] (Qx3 (n:=34) (m:=1) (xs:=x17.2.2.2.2.map Qad) (l':=[(1,(.dat 1 (p1.map Qad))),(3,.ref 0 2 0 0),(8,(Qlb y3)),(10,(Qdu x9)),(11,.ref 4 7 0 0),(12,I x17.1),(13,(Qnh p2)),(14,(I ((p2.length:Int)))),(15,I y4),(16,(B ((decide (y4<(p2.length:Int)))))),(17,(.dptr (Qak x9) 0)),(18,(Qdu x9)),(19,(.tup [.ref 4 7 0 0,I x17.1])),(20,(Qo4 p0)),(21,(.dat 1 (p1.map Qad))),(22,(Qdu x9)),(23,(.tup [.ref 4 7 0 0,I x17.1])),(24,.ref 4 7 0 0),(25,I x17.1),(26,I x17.1),(27,(B ((decide (x17.1≥0)))))]) (own':=[(Qni p0),.tok,Qnt,(.own 1 [[I x17.1]]),(.own 7 [[(Qo6 p0),(Qo5 p0),(Qpg x17 p0),(Qtg x17 p0),(.dat 1 ((x17.2.2.2.2.take p1.length:List Int).map Qad)),(Qdu x9),I x17.2.1]]),.dead,.dead,.dead]) 7 [(1,(.dat 1 (p1.map Qad))),(3,.ref 0 2 0 0),(8,(Qlb y3)),(10,(Qdu x9)),(11,.ref 4 7 0 0),(12,I x17.1),(13,(Qnh p2)),(14,(I ((p2.length:Int)))),(15,I y4),(16,(B ((decide (y4<(p2.length:Int)))))),(17,(.dptr (Qak x9) 0)),(18,(Qdu x9)),(19,(.tup [.ref 4 7 0 0,I x17.1])),(20,(Qo4 p0)),(21,(.dat 1 (p1.map Qad))),(22,(Qdu x9)),(23,(.tup [.ref 4 7 0 0,I x17.1])),(24,.ref 4 7 0 0),(25,I x17.1),(26,I x17.1),(27,(B ((decide (x17.1≥0)))))] (by kernel_rfl) (by kernel_rfl) (by kernel_rfl) ⟨rfl,(.same _),rfl,(.same _),rfl,(.same _),rfl,(.same _),rfl,(.same _),rfl,(.same _),rfl,(.same _),rfl,(.same _),rfl,(.same _),rfl,(.same _),rfl,(.same _),rfl,(.same _),rfl,(.same _),rfl,(.same _),rfl,(.same _),rfl,(.same _),rfl,(.same _),rfl,(.same _),rfl,(.same _),rfl,(.same _),rfl,(.same _),tv⟩ (qc Qdk (qc Qdk (qc Qdk (qc Qdk (qc (Qsy (lc (.same _) (lc (.same _) (lc (.same _) (lc (.same _) (lc (Qmc hz21) (lc (.same _) (lc (.same _) ln)))))))) (qc Qdk (qc Qdk (qc .dead qn)))))))))) ?_
      refine wmr (Qx2 [(Qni p0),.tok,Qnt,(.own 1 [[I x17.1]]),(.own 7 [[(Qo6 p0),(Qo5 p0),(Qpg x17 p0),(Qtg x17 p0),(.dat 1 ((x17.2.2.2.2.take p1.length:List Int).map Qad)),(Qdu x9),I x17.2.1]]),.dead,.dead,.dead] (Qx3 (n:=34) (m:=7) (xs:=[[(Qo6 p0),(Qo5 p0),(Qpg x17 p0),(Qtg x17 p0),(.dat 1 ((x17.2.2.2.2.take p1.length:List Int).map Qad)),(Qdu x9),I x17.2.1]]) (l':=[(1,(.dat 1 (p1.map Qad))),(3,.ref 0 2 0 0),(8,(Qlb y3)),(10,(Qdu x9)),(11,(.dptr (Qky (⟨p0,(⟨x17.2.2.1.take ((p0.Elements.length:Int).toNat),x17.2.2.2.1.take ((p0.Elements.length:Int).toNat),x17.2.2.2.2.take p1.length⟩:Qhm),x9,x17.2.1⟩:Qdn)) 0)),(12,I x17.1),(13,(Qnh p2)),(14,(I ((p2.length:Int)))),(15,I y4),(16,(B ((decide (y4<(p2.length:Int)))))),(17,(.dptr (Qak x9) 0)),(18,(Qdu x9)),(19,.any),(20,(Qo4 p0)),(21,(.dat 1 (p1.map Qad))),(22,(Qdu x9)),(23,.any),(24,(.dptr (Qky (⟨p0,(⟨x17.2.2.1.take ((p0.Elements.length:Int).toNat),x17.2.2.2.1.take ((p0.Elements.length:Int).toNat),x17.2.2.2.2.take p1.length⟩:Qhm),x9,x17.2.1⟩:Qdn)) 0)),(25,I x17.1),(26,I x17.1),(27,(B ((decide (x17.1≥0)))))]) (own':=[(Qni p0),.tok,(.own 1 [[(.dptr (Qky (⟨p0,(⟨x17.2.2.1.take ((p0.Elements.length:Int).toNat),x17.2.2.2.1.take ((p0.Elements.length:Int).toNat),x17.2.2.2.2.take p1.length⟩:Qhm),x9,x17.2.1⟩:Qdn)) 0)]]),(.own 1 [[I x17.1]]),.dead,.dead,.dead,.dead]) 4 [(1,(.dat 1 (p1.map Qad))),(3,.ref 0 2 0 0),(8,(Qlb y3)),(10,(Qdu x9)),(11,.ref 4 7 0 0),(12,I x17.1),(13,(Qnh p2)),(14,(I ((p2.length:Int)))),(15,I y4),(16,(B ((decide (y4<(p2.length:Int)))))),(17,(.dptr (Qak x9) 0)),(18,(Qdu x9)),(19,(.tup [.ref 4 7 0 0,I x17.1])),(20,(Qo4 p0)),(21,(.dat 1 (p1.map Qad))),(22,(Qdu x9)),(23,(.tup [.ref 4 7 0 0,I x17.1])),(24,.ref 4 7 0 0),(25,I x17.1),(26,I x17.1),(27,(B ((decide (x17.1≥0)))))] (by kernel_rfl) (by kernel_rfl) (by kernel_rfl) ⟨rfl,(.same _),rfl,(.same _),rfl,(.same _),rfl,(.same _),rfl,(.ptr _ _ rfl),rfl,(.same _),rfl,(.same _),rfl,(.same _),rfl,(.same _),rfl,(.same _),rfl,(.same _),rfl,(.same _),rfl,(.any _),rfl,(.same _),rfl,(.same _),rfl,(.same _),rfl,(.any _),rfl,(.ptr _ _ rfl),rfl,(.same _),rfl,(.same _),rfl,(.same _),tv⟩ (qc Qdk (qc Qdk (qc (Qsy (lc (.ptr _ _ rfl) ln)) (qc Qdk (qc .dead (qc Qdk (qc Qdk (qc Qdk qn)))))))))) ?_
      obtain⟨ha22,h⟩:=cko h
      refine wx1 tbk [(2,rp [(.tmp 29,(.dptr (Qky (⟨p0,(⟨x17.2.2.1.take ((p0.Elements.length:Int).toNat),x17.2.2.2.1.take ((p0.Elements.length:Int).toNat),x17.2.2.2.2.take p1.length⟩:Qhm),x9,x17.2.1⟩:Qdn)) 0))] (Q9i p0 x17 p1 x9)),(3,⟨[(.tmp 28,(Qlb y3)),(.tmp 30,(Q9i p0 x17 p1 x9))],[(1,.tok),(8,.unused)],(Q9h y3 p0 x17 p1 x9),[(1,.dead),(8,.tok)],false⟩)] ⟨Qbz (vs:=[(.dptr (Qky (⟨p0,(⟨x17.2.2.1.take ((p0.Elements.length:Int).toNat),x17.2.2.2.1.take ((p0.Elements.length:Int).toNat),x17.2.2.2.2.take p1.length⟩:Qhm),x9,x17.2.1⟩:Qdn)) 0)]) rfl underlying168 Qot Zof rfl (by decide) rfl (by decide) (by rfl) (by rfl) (by rfl) rfl,Qek rfl underlying168 Zqr (Base.acc _ _) rfl rfl (by rfl) (Qhl Qdo ha22) (Qhk Qdo ha22 (by decide)) (Qhj Qdo) rfl rfl,tv⟩<|bln<|thn<|wxz1<|thn ?_
      exact arm (mto (n:=34) [(1,(.dat 1 (p1.map Qad))),(3,.ref 0 2 0 0),(8,(Q9h y3 p0 x17 p1 x9)),(13,(Qnh p2)),(14,(I ((p2.length:Int)))),(15,(I (w64 (y4+1))))] [0,8] [(Qni p0),.tok] hφ0 (pc (rnd Qaf) (prr (pc (.rn (Qcv rfl (Qb5 Qfb _))) (pc (rnd Qai) (pw (pw pn)))))) (qb (lc (rnd Qag) (lc (rnd Qab) ln)) (qc .tok qn))) (ih (y3++([(⟨p0,(⟨x17.2.2.1.take ((p0.Elements.length:Int).toNat),x17.2.2.2.1.take ((p0.Elements.length:Int).toNat),x17.2.2.2.2.take p1.length⟩:Qhm),x9,x17.2.1⟩:Qdn)]),w64 (y4+1)) h)
   ·exact wfn hc8<|Qbf<|Qaw<|Qaw<|Qbe rfl<|thn<|⟨(y3),h,(mto (n:=34) [(8,(Qlb y3))] [1] [.tok] hφ0 (pc (.rn (Qcv rfl (Qb5 Qfb _))) pn) (qc .tok qn))⟩
def Qev (N:Nat) (y2:Int) (k6:Unit→Option (Int×Int)) (x7:Qdn):Nat→Int→Option (Int×Int)
  |0,_=>none
  |n13+1,y11=>
    bif (decide (y11<(x7.Tick.Lost.length:Int))) then
     (getI x7.Tick.Lost y11).bind fun x15=>
     bif (decide (x15.Scale>0)) then
      some (y2,y11)
     else
      Qev N y2 k6 x7 n13 (w64 (y11+1))
    else
     k6 ()
def Qew (N:Nat) (p0:List Qdn) (k1:Unit→Option (Int×Int)):Nat→Int→Option (Int×Int)
  |0,_=>none
  |n4+1,y2=>
    bif (decide (y2<(p0.length:Int))) then
     Qbl (fun _=>
       Qew N p0 k1 n4 (w64 (y2+1))) fun k6:Unit→Option (Int×Int)=>
     (getI p0 y2).bind fun x7=>
     Qev N y2 k6 x7 N 0
    else
     k1 ()
def Qix (N:Nat) (p0:List Qdn):Option (Int×Int):=
  Qbl (fun _=>
    some ((-1),(-1))) fun k1:Unit→Option (Int×Int)=>
  Qew N p0 k1 N 0
def Qo3 (p0:List Qdn):AV:=.dat 1 (p0.map Qdo)
def Qxc (x7:Qdn):AV:=.dat 4 (x7.Tick.Lost.map Qa0)
theorem Qn5 (N:Nat) (p0:List Qdn) (r:(Int×Int)) (h:Qix N p0=some r):Spec prog 86 [(.dat 1 (p0.map Qdo))] [] (.tup [(I r.1),(I r.2)]) []:=by
  refine Qan func86 rfl 0 (nle rfl) (fun X φ0 w0 hφ0 hd0=>?_)
  unfold Qix at h
  refine wxz ?_
  obtain⟨k1,hk_k1,h⟩:=jko h
  refine wjn (τ:=Unit) (fun t=>k1 t=some r) (fun _=>⟨mk 33 [],[]⟩) (fun t h=>?_) ?_
  ·subst hk_k1
   refine wxz<|Qaj ?_
   obtain rfl:=osi h
   exact fend ⟨[(I ((-1))),(I ((-1)))],⟨rot,rot,tv⟩,rfl⟩ (NLt.tup _ (nlcc nl0))
  ·skip
   refine wx tbk [(1,rp _ _)] ⟨alq 1 Qdo p0 underlying168,tv⟩<|Qar ?_
   refine wmr (mto (n:=33) (l':=[(8,(Qo3 p0)),(9,(I ((p0.length:Int)))),(10,I 0)]) (own':=[]) [(8,(Qo3 p0)),(9,(I ((p0.length:Int)))),(10,I 0)] [] [] hφ0 (pc (rnd Qfb) (pw (pw pn))) qn) ?_
   refine Qbt (τ:=Int) (fun n t=>Qew N p0 k1 n t=some r) (fun y2=>⟨mk 33 [(8,(Qo3 p0)),(9,(I ((p0.length:Int)))),(10,I y2)],[]⟩) (fun t h=>by rw[Qew] at h;cases h) (fun n4 ih y2 h=>?_) N (0) h
   rw[Qew] at h
   skip
   refine wxz<|wsq ?_
   refine bfe h (fun hc5 h=>?_) fun hc5 h=>?_
   ·refine wft hc5<|Qap<|thn ?_
    obtain⟨k6,hk_k6,h⟩:=jko h
    refine wjn (τ:=Unit) (fun t=>k6 t=some r) (fun _=>⟨mk 33 [(8,(Qo3 p0)),(9,(I ((p0.length:Int)))),(10,I y2)],[]⟩) (fun t h=>?_) ?_
    ·subst hk_k6
     exact wxz1<|thn<|arm (mto (n:=33) [(8,(Qo3 p0)),(9,(I ((p0.length:Int)))),(10,(I (w64 (y2+1))))] [] [] hφ0 (pc (rnd Qfb) (pw (pw pn))) qn) (ih (w64 (y2+1)) h)
    ·skip
     refine Qar ?_
     obtain⟨x7,hg8,h⟩:=bno h
     obtain⟨hi9,hj10⟩:=gsm hg8
     refine wx tbk [(1,rp _ _)] ⟨aiq underlying168 Qot Qdo hi9 hj10,tv⟩ ?_
     refine wx tbk [(5,rp _ _)] ⟨alq 4 Qa0 x7.Tick.Lost underlying32,tv⟩<|Qar ?_
     refine wmr (mto (n:=33) (l':=[(4,I y2),(8,(Qo3 p0)),(9,(I ((p0.length:Int)))),(10,I y2),(19,(Qxc x7)),(20,(I ((x7.Tick.Lost.length:Int)))),(21,I 0)]) (own':=[]) [(4,I y2),(8,(Qo3 p0)),(9,(I ((p0.length:Int)))),(10,I y2),(19,(Qxc x7)),(20,(I ((x7.Tick.Lost.length:Int)))),(21,I 0)] [] [] hφ0 (pw (pc (rnd Qfb) (pw (pw (pc (rnd Qa3) (pw (pw pn))))))) qn) ?_
     refine Qbt (τ:=Int) (fun n t=>Qev N y2 k6 x7 n t=some r) (fun y11=>⟨mk 33 [(4,I y2),(8,(Qo3 p0)),(9,(I ((p0.length:Int)))),(10,I y2),(19,(Qxc x7)),(20,(I ((x7.Tick.Lost.length:Int)))),(21,I y11)],[]⟩) (fun t h=>by rw[Qev] at h;cases h) (fun n13 ih y11 h=>?_) N (0) h
     rw[Qev] at h
     skip
     refine wxz<|wsq ?_
     refine bfe h (fun hc14 h=>?_) fun hc14 h=>?_
     ·refine wft hc14<|Qap<|thn<|wsq<|Qar ?_
      obtain⟨x15,hg16,h⟩:=bno h
      obtain⟨hi17,hj18⟩:=gsm hg16
      refine wx tbk [(1,rp _ _)] ⟨aiq underlying32 ti82 Qa0 hi17 hj18,tv⟩<|wxz ?_
      refine bfe h (fun hc19 h=>?_) fun hc19 h=>?_
      ·refine wft hc19<|wxz<|Qaj<|Qat<|Qal<|Qal<|Qat<|Qat<|Qal<|Qal ?_
       refine Qat<|Qal ?_
       obtain rfl:=osi h
       exact fend ⟨[I y2,I y11],⟨rot,rot,tv⟩,rfl⟩ (NLt.tup _ (nlcc nl0))
      ·exact wfn hc19<|Qap<|bln<|thn<|wxz1<|thn<|arm (mto (n:=33) [(4,I y2),(8,(Qo3 p0)),(9,(I ((p0.length:Int)))),(10,I y2),(19,(Qxc x7)),(20,(I ((x7.Tick.Lost.length:Int)))),(21,(I (w64 (y11+1))))] [] [] hφ0 (pw (pc (rnd Qfb) (pw (pw (pc (rnd Qa3) (pw (pw pn))))))) qn) (ih (w64 (y11+1)) h)
     ·exact wfn hc14<|Qbf<|Qaw<|Qaw<|Qbe rfl<|bln<|thn<|⟨(),h,(mto (n:=33) [(8,(Qo3 p0)),(9,(I ((p0.length:Int)))),(10,I y2)] [] [] hφ0 (pc (rnd Qfb) (pw (pw pn))) qn)⟩
   ·exact wfn hc5<|Qbf<|Qaw<|Qaw<|Qbe rfl<|thn<|⟨(),h,(mto (n:=33) [] [] [] hφ0 pn qn)⟩
def Qiz (N:Nat) (p0:GNet) (p1:List Int) (p2:List (List Qaa)):Option (Int×Int×Int):=
  (Qju N p0 p1 p2).bind fun x2=>
  bif (x2 != 0) then
   some (0,0,x2)
  else
   (Qht N p0 p1 p2).bind fun x5=>
   bif (!x5.2) then
    some (0,0,11)
   else
    (Qix N x5.1).bind fun x8=>
    some (x8.1,x8.2,0)
theorem Qt8 (N:Nat) (p0:GNet) (p1:List Int) (p2:List (List Qaa)) (r:(Int×Int×Int)) (h:Qiz N p0 p1 p2=some r):Spec prog 42 [(.agg (Qf6 p0)),(.dat 1 (p1.map Qad)),(.dat 1 (p2.map Qak))] [] (.tup [(I r.1),(I r.2.1),(I r.2.2)]) []:=by
  refine Qan func42 rfl 0 (nle rfl) (fun X φ0 w0 hφ0 hd0=>?_)
  unfold Qiz at h
  refine wxz<|wsq ?_
  obtain⟨x2,hf1,h⟩:=bno h
  refine wx tbk [(3,rp _ _)] ⟨apv Zcb (Qo9 N p0 p1 p2 _ hf1) (nlc (NLt.agg _ (nlc (nld Qag _) (nlc (nld Qab _) nl0))) (nlc (nld Qaf _) (nlc (nld Qai _) nl0))) nll,tv⟩<|wxz ?_
  refine bfe h (fun hc3 h=>?_) fun hc3 h=>?_
  ·refine wft hc3<|wxz<|Qaj<|Qal ?_
   obtain rfl:=osi h
   exact fend ⟨[I 0,I 0,I x2],⟨rot,rot,rot,tv⟩,rfl⟩ (NLt.tup _ (nlcc (nlc nll nl0)))
  ·refine wfn hc3<|Qap<|thn ?_
   obtain⟨x5,hf4,h⟩:=bno h
   refine wx tbk [(3,rp _ _)] ⟨apv Zca (Qmm N p0 p1 p2 _ hf4) (nlc (NLt.agg _ (nlc (nld Qag _) (nlc (nld Qab _) nl0))) (nlc (nld Qaf _) (nlc (nld Qai _) nl0))) (NLt.tup _ (nlc (nld Qfb _) (nlc nll nl0))),tv⟩<|wsq<|wxz ?_
   refine bfe h (fun hc6 h=>?_) fun hc6 h=>?_
   ·refine wft hc6<|wxz<|Qaj<|Qal ?_
    obtain rfl:=osi h
    exact fend ⟨[I 0,I 0,I 11],⟨rot,rot,rot,tv⟩,rfl⟩ (NLt.tup _ (nlcc (nlc nll nl0)))
   ·refine wfn hc6<|Qap<|thn ?_
    obtain⟨x8,hf7,h⟩:=bno h
    refine wx tbk [(1,rp _ _)] ⟨apv Zb9 (Qn5 N x5.1 _ hf7) (nlc (nld Qfb _) nl0) (NLt.tup _ (nlcc nl0)),tv⟩<|wxz<|Qaj ?_
    obtain rfl:=osi h
    exact fend ⟨[I x8.1,I x8.2,I 0],⟨rot,rot,rot,tv⟩,rfl⟩ (NLt.tup _ (nlcc (nlc nll nl0)))
def Qdc (N:Nat) (p0:GNet) (p1:List (List Qaa)) (k2:Unit→Option Int):Nat→Int→Option Int
  |0,_=>none
  |n5+1,y3=>
    bif (decide (y3<(p1.length:Int))) then
     (getI p1 y3).bind fun x7=>
     (Qhr N p0 x7).bind fun x12=>
     bif (x12 != 0) then
      some x12
     else
      Qdc N p0 p1 k2 n5 (w64 (y3+1))
    else
     k2 ()
def Qid (N:Nat) (p0:GNet) (p1:List (List Qaa)):Option Int:=
  Qbl (fun _=>
    Qbl (fun _=>
      some 0) fun k2:Unit→Option Int=>
    Qdc N p0 p1 k2 N 0) fun k1:Unit→Option Int=>
  bif (decide ((p1.length:Int)<1)) then
   some 3
  else
   bif (decide ((p1.length:Int)>6)) then
    some 3
   else
    k1 ()
def Qtf (p1:List (List Qaa)):AV:=.dat 1 (p1.map Qak)
def Znu (p0:GNet):AV:=.dat 7 (p0.Elements.map Qac)
def Qv0 (p0:GNet):Slot:=.own 2 [[(.dat 5 (p0.Table.map Qaq)),(Znu p0)]]
theorem Qow (N:Nat) (p0:GNet) (p1:List (List Qaa)) (r:Int) (h:Qid N p0 p1=some r):Spec prog 87 [(.agg (Qf6 p0)),(.dat 1 (p1.map Qak))] [] (I r) []:=by
  refine Qan func87 rfl 0 (nle rfl) (fun X φ0 w0 hφ0 hd0=>?_)
  unfold Qid at h
  refine wxz ?_
  obtain⟨k1,hk_k1,h⟩:=jko h
  refine wjn (τ:=Unit) (fun t=>k1 t=some r) (fun _=>⟨mk 30 [(1,(Qtf p1)),(2,.ref 0 2 0 0)],[(Qv0 p0)]⟩) (fun t h=>?_) ?_
  ·subst hk_k1
   obtain⟨k2,hk_k2,h⟩:=jko h
   refine wjn (τ:=Unit) (fun t=>k2 t=some r) (fun _=>⟨mk 30 [],[]⟩) (fun t h=>?_) ?_
   ·subst hk_k2
    refine wxz<|Qaj ?_
    obtain rfl:=osi h
    exact fend ⟨[I 0],⟨rot,tv⟩,rfl⟩ nll
   ·skip
    refine wxz<|Qar ?_
    refine wmr (mto (n:=30) (l':=[(1,(Qtf p1)),(2,.ref 0 2 0 0),(5,I 0)]) (own':=[(Qv0 p0)]) [(1,(Qtf p1)),(2,.ref 0 2 0 0),(5,I 0)] [0] [(Qv0 p0)] hφ0 (pc (rnd Qai) (prr (pw pn))) (qb (lc (rnd Qag) (lc (rnd Qab) ln)) qn)) ?_
    refine Qbt (τ:=Int) (fun n t=>Qdc N p0 p1 k2 n t=some r) (fun y3=>⟨mk 30 [(1,(Qtf p1)),(2,.ref 0 2 0 0),(5,I y3)],[(Qv0 p0)]⟩) (fun t h=>by rw[Qdc] at h;cases h) (fun n5 ih y3 h=>?_) N (0) h
    rw[Qdc] at h
    skip
    refine wsq<|wx tbk [(2,rp _ _)] ⟨alq 1 Qak p1 underlying49,tv⟩ ?_
    refine bfe h (fun hc6 h=>?_) fun hc6 h=>?_
    ·refine wft hc6<|Qap<|thn<|wsq<|Qar ?_
     obtain⟨x7,hg8,h⟩:=bno h
     obtain⟨hi9,hj10⟩:=gsm hg8
     obtain⟨x12,hf11,h⟩:=bno h
     refine wxd tbk [(3,rp _ _),(5,rp _ _)] ⟨aiq underlying49 ti28 Qak hi9 hj10,apv Zll (Qpo N p0 x7 _ hf11) (nlc (NLt.agg _ (nlc (nld Qag _) (nlc (nld Qab _) nl0))) (nlc (nld Qam _) nl0)) nll,tv⟩<|wxz ?_
     refine bfe h (fun hc13 h=>?_) fun hc13 h=>?_
     ·refine wft hc13<|wxz<|Qaj<|Qat<|Qal<|Qal<|Qat<|Qal ?_
      obtain rfl:=osi h
      exact fend ⟨[I x12],⟨rot,tv⟩,rfl⟩ nll
     ·exact wfn hc13<|Qap<|bln<|thn<|wxz1<|thn<|arm (mto (n:=30) [(1,(Qtf p1)),(2,.ref 0 2 0 0),(5,(I (w64 (y3+1))))] [0] [(Qv0 p0)] hφ0 (pc (rnd Qai) (prr (pw pn))) (qb (lc (rnd Qag) (lc (rnd Qab) ln)) qn)) (ih (w64 (y3+1)) h)
    ·exact wfn hc6<|Qbf<|Qaw<|Qaw<|Qbe rfl<|thn<|⟨(),h,(mto (n:=30) [] [] [] hφ0 pn qn)⟩
  ·skip
   refine bfe h (fun hb14 h=>?_) fun hb14 h=>?_
   ·refine wx tbk [(1,rp _ _),(3,rp [(.tmp 9,(B ((decide ((p1.length:Int)<1)))))] (B true))] ⟨alq 1 Qak p1 underlying49,asb hb14 (amv rfl),tv⟩<|wtr<|wxz<|Qaj<|Qal ?_
    obtain rfl:=osi h
    exact fend ⟨[I 3],⟨rot,tv⟩,rfl⟩ nll
   ·refine wx tbk [(1,rp _ _),(3,rp [(.tmp 9,(B ((decide ((p1.length:Int)<1)))))] (B false)),(5,rp [(.tmp 10,B false),(.tmp 11,(Qtf p1))] (I ((p1.length:Int))))] ⟨alq 1 Qak p1 underlying49,asb hb14 (amv rfl),ag_ (alq 1 Qak p1 underlying49),tv⟩ ?_
    refine bfe h (fun hc15 h=>?_) fun hc15 h=>?_
    ·refine wft hc15<|wxz<|Qaj<|Qal ?_
     obtain rfl:=osi h
     exact fend ⟨[I 3],⟨rot,tv⟩,rfl⟩ nll
    ·exact wfn hc15<|Qap<|thn<|⟨(),h,(mto (n:=30) [(1,(Qtf p1)),(2,.ref 0 2 0 0)] [0] [(Qv0 p0)] hφ0 (pc (rnd Qai) (prr pn)) (qb (lc (rnd Qag) (lc (rnd Qab) ln)) qn))⟩
def Qjl (N:Nat) (p0:GNet) (p1:List Int) (p2:List (List Qaa)):Option Int:=
  (Qkh N p0).bind fun x2=>
  bif (!x2) then
   some 1
  else
   (Qg6 N p0 p1).bind fun x5=>
   bif (!x5) then
    some 1
   else
    (Qid N p0 p2).bind fun x8=>
    some x8
def Zif (p0:GNet):AV:=.agg [(.dat 5 (p0.Table.map Qaq)),(.dat 7 (p0.Elements.map Qac))]
def Q9f (p0:GNet) (x2:Bool):List (Nat×Rec):=[(1,rp [fu 28,((.tmp 7),(Zif p0))] (B x2))]
theorem Qss (N:Nat) (p0:GNet) (p1:List Int) (p2:List (List Qaa)) (r:Int) (h:Qjl N p0 p1 p2=some r):Spec prog 43 [(.agg (Qf6 p0)),(.dat 1 (p1.map Qad)),(.dat 1 (p2.map Qak))] [] (I r) []:=by
  refine Qan func43 rfl 0 (nle rfl) (fun X φ0 w0 hφ0 hd0=>?_)
  unfold Qjl at h
  refine wxz<|wsq ?_
  obtain⟨x2,hf1,h⟩:=bno h
  refine hpre (A:=(Q9f p0 x2)) ⟨apv Zly (Qt1 N p0 _ hf1) (nlc (NLt.agg _ (nlc (nld Qag _) (nlc (nld Qab _) nl0))) nl0) nll,tv⟩ fun q1_=>?_
  refine bfe h (fun hb3 h=>?_) fun hb3 h=>?_
  ·refine wx tbk (hcat (Q9f p0 x2) [(3,rp [(.tmp 9,(B ((!x2))))] (B true))]) (hap q1_ ⟨asb hb3 (amv rfl),tv⟩)<|wtr<|wxz<|Qaj<|Qal ?_
   obtain rfl:=osi h
   exact fend ⟨[I 1],⟨rot,tv⟩,rfl⟩ nll
  ·obtain⟨x5,hf4,h⟩:=bno h
   refine wx tbk (hcat (Q9f p0 x2) [(3,rp [(.tmp 9,(B ((!x2))))] (B false)),(6,rp [(.tmp 10,B false),fu 33,(.tmp 11,(Zif p0)),(.tmp 12,(.dat 1 (p1.map Qad)))] (B x5))]) (hap q1_ ⟨asb hb3 (amv rfl),ag_ (apv Zlx (Qov N p0 p1 _ hf4) (nlc (NLt.agg _ (nlc (nld Qag _) (nlc (nld Qab _) nl0))) (nlc (nld Qaf _) nl0)) nll),tv⟩) ?_
   refine bfe h (fun hc6 h=>?_) fun hc6 h=>?_
   ·refine wft hc6<|wxz<|Qaj<|Qal ?_
    obtain rfl:=osi h
    exact fend ⟨[I 1],⟨rot,tv⟩,rfl⟩ nll
   ·refine wfn hc6<|Qap<|thn ?_
    obtain⟨x8,hf7,h⟩:=bno h
    refine wx tbk [(2,rp _ _)] ⟨apv Zle (Qow N p0 p2 _ hf7) (nlc (NLt.agg _ (nlc (nld Qag _) (nlc (nld Qab _) nl0))) (nlc (nld Qai _) nl0)) nll,tv⟩<|Qaj ?_
    obtain rfl:=osi h
    exact fend ⟨[I x8],⟨rot,tv⟩,rfl⟩ nll
end
section
open Go.RowKit
theorem Q68 (N:Nat) (l:List (List Qaa)) (k:List (List Qaa)→Option (List (List Qaa))) (hN:1001≤N) (hl:l.length≤1000) (hc:∀c∈l,c.length≤1000):∀(m i:Nat) (acc:List (List Qaa)),(l.drop i).length<m→acc.length=i→Qez N l k m acc i=k (acc++l.drop i):=by
 intro m
 induction m with
 |zero=>intro i _ h;cases h
 |succ m ih=>
  intro i acc h ha
  rw[Qez]
  cases hd:l.drop i with
  |nil=>
   have:=Qb2 hd
   simp[show ¬((i:Int)<l.length) from by omega]
  |cons p q=>
   obtain⟨hg,hd',hlt⟩:=Qbp hd
   simp only[dlI hlt,cond_true,Qb1 hg,Option.bind_some,Qv6 (hc p (List.mem_of_getElem? hg)) hN,chk]
   rw[show decide ((acc.length+[p].length)*24≤140737488355328)=true by simp;omega,cond_true,w64S (i:=i) (by omega),
    ih (i+1) _ (dlt hd hd' h) (by simp[ha]),hd',List.append_assoc]
   rfl
theorem Q5m {N:Nat}{l:List (List Qaa)}(hN:1001≤N) (hl:l.length≤1000) (hc:∀c∈l,c.length≤1000):Qi2 N l=some l:=by
 unfold Qi2
 rw[Qe1]
 refine(Q68 N l _ hN hl hc N 0 [] (by simp;omega) rfl).trans ?_
 rw[List.drop_zero,List.nil_append]
theorem Zbz (N:Nat) (l:List (List Qaa)) (k:Unit→Option Bool) (hl:l.length≤9223372036854775807):∀(m i:Nat),(l.drop i).length<m→Qe3 N k l m i=bif (l.drop i).all (fun c=>decide (c.length≤25)) then k () else some false:=by
 intro m
 induction m with
 |zero=>intro i h;cases h
 |succ m ih=>
  intro i h
  rw[Qe3]
  cases hd:l.drop i with
  |nil=>
   have:=Qb2 hd
   simp[show ¬((i:Int)<l.length) from by omega]
  |cons p q=>
   obtain⟨hg,hd',hlt⟩:=Qbp hd
   simp only[dlI hlt,cond_true,Qb1 hg,Option.bind_some,List.all_cons]
   by_cases hp:p.length≤25
   ·rw[decide_eq_false (show ¬((p.length:Int)>25) by omega),decide_eq_true hp,cond_false,Bool.true_and,w64S (i:=i) (by omega),ih (i+1) (dlt hd hd' h),hd']
   ·rw[decide_eq_true (show(p.length:Int)>25 by omega),decide_eq_false hp]
    rfl
theorem Zk8 {N:Nat}{n:GNet}{l:List (List Qaa)}(hn:(n.Elements.length:Int)≤9223372036854775807) (hl:l.length≤9223372036854775807) (hN:n.Elements.length+1001≤N) (hN2:l.length<N):Qk6 N n l=some false∨(Qk6 N n l=some true∧Qib n∧l.length≤8∧∀c∈l,c.length≤25):=by
 unfold Qk6
 rw[Qe1]
 have hloop:=fun k=>Zbz N l k hl N 0 (by simp;omega)
 simp only[List.drop_zero] at hloop
 rw[show ∀k,Qe3 N k l N 0=_ from hloop]
 cases ha:l.all (fun c=>decide (c.length≤25)) with
 |false=>exact .inl rfl
 |true=>
  rw[cond_true]
  rcases Zoz (N:=N) (n:=n) (ws:=[]) hn (by omega) with e |⟨e,hs,_⟩
  ·rw[e];exact .inl rfl
  ·rw[e,Option.bind_some,cond_true]
   by_cases h8:l.length≤8
   ·rw[decide_eq_true (show(l.length:Int)≤8 by omega)]
    exact .inr ⟨rfl,hs,h8,fun c hc=>by simpa using List.all_eq_true.1 ha c hc⟩
   ·rw[decide_eq_false (show ¬((l.length:Int)≤8) by omega)]
    exact .inl rfl
def Qqx (n:GNet):List (List Qaa)→Int
 |[]=>0
 |c::l=>if fedI n c=0 then Qqx n l else fedI n c
def Qh7 (n:GNet) (st:List Int) (l:List (List Qaa)):Int:=bif netB n&&stB n st then(bif btw l.length 1 6 then Qqx n l else 3) else 1
section
variable {N : Nat} {n : GNet} (hs : Qib n) (hN : 1001 ≤ N) {l : List (List Qaa)} (hl : l.length ≤ 1000) (hc : ∀ c ∈ l, c.length ≤ 1000)
include hs hN hl hc
theorem Q2e (k:Unit→Option Int) (hk:k ()=some 0):∀(m i:Nat),(l.drop i).length<m→Qfd N n l k m i=some (Qqx n (l.drop i)):=by
 intro m
 induction m with
 |zero=>intro i h;cases h
 |succ m ih=>
  intro i h
  rw[Qfd]
  cases hd:l.drop i with
  |nil=>
   have:=Qb2 hd
   rw[decide_eq_false (show ¬((i:Int)<(l.length:Int)) by omega),cond_false,hk]
   rfl
  |cons p q=>
   obtain⟨hg,hd',hlt⟩:=Qbp hd
   simp only[dlI hlt,cond_true,Qb1 hg,Option.bind_some,Zi1 hs hN (hc p (List.mem_of_getElem? hg))]
   rw[w64S (i:=i) (by omega),ih (i+1) (dlt hd hd' h),hd',Qqx]
   by_cases h0:fedI n p=0
   ·rw[h0,if_pos rfl];rfl
   ·rw[if_neg h0,show(fedI n p != 0)=true by simpa using h0,cond_true]
theorem Q40 {st:List Int}(hl2:st.length≤1000):Qju N n st l=some (Qh7 n st l):=by
 unfold Qju Qh7
 rw[Qzd hs hN hl2,Option.bind_some]
 cases netB n&&stB n st with
 |false=>rfl
 |true=>
  rw[cond_true,cond_true,bne_self_eq_false,cond_false,Qjt,Option.bind_some]
  cases btw (l.length:Int) 1 6 with
  |false=>rfl
  |true=>
   rw[Bool.not_true,cond_false,Qe1,cond_true]
   refine(Q2e hs hN hl hc _ rfl N 0 (by simp;omega)).trans ?_
   rw[List.drop_zero]
theorem Q0d (k:Unit→Option Int) (hk:k ()=some 0):∀(m i:Nat),(l.drop i).length<m→Qdc N n l k m i=some (Qqx n (l.drop i)):=by
 intro m
 induction m with
 |zero=>intro i h;cases h
 |succ m ih=>
  intro i h
  rw[Qdc]
  cases hd:l.drop i with
  |nil=>
   have:=Qb2 hd
   rw[decide_eq_false (show ¬((i:Int)<(l.length:Int)) by omega),cond_false,hk]
   rfl
  |cons p q=>
   obtain⟨hg,hd',hlt⟩:=Qbp hd
   simp only[dlI hlt,cond_true,Qb1 hg,Option.bind_some,Q0n hs hN (hc p (List.mem_of_getElem? hg))]
   rw[w64S (i:=i) (by omega),ih (i+1) (dlt hd hd' h),hd',Qqx]
   by_cases h0:fedI n p=0
   ·rw[h0,if_pos rfl];rfl
   ·rw[if_neg h0,show(fedI n p != 0)=true by simpa using h0,cond_true]
theorem Zb1 {st:List Int}(hl2:st.length≤1000):Qjl N n st l=some (Qh7 n st l):=by
 unfold Qjl Qh7
 rw[Zk0 hs hN,Option.bind_some]
 cases netB n with
 |false=>rfl
 |true=>
  rw[Bool.not_true,cond_false,Q6p (n:=n) hl2 hN,Option.bind_some]
  cases stB n st with
  |false=>rfl
  |true=>
   rw[Bool.not_true,cond_false]
   unfold Qid btw
   rw[Qe1]
   by_cases h1:(l.length:Int)<1
   ·rw[decide_eq_true h1,decide_eq_false (show ¬1≤(l.length:Int) by omega)];rfl
   ·rw[decide_eq_false h1,decide_eq_true (show 1≤(l.length:Int) by omega),cond_false]
    by_cases h6:(l.length:Int)>6
    ·rw[decide_eq_true h6,decide_eq_false (show ¬(l.length:Int)≤6 by omega)];rfl
    ·rw[decide_eq_false h6,decide_eq_true (show(l.length:Int)≤6 by omega),cond_false,Qe1]
     have:=Q0d hs hN hl hc (fun _=>some 0) rfl N 0 (by simp;omega)
     rw[List.drop_zero] at this
     exact congrArg (fun o:Option Int=>o.bind fun x8=>some x8) this
end
def Qnu (n:GNet) (c:List Qaa) (r:Qvu):Qdn:=⟨n,⟨r.1,r.2.1,r.2.2.1⟩,c,r.2.2.2⟩
def Qlv (n:GNet) (st:List Int):List (List Qaa)→Option (List Qdn)
 |[]=>some []
 |c::l=>Qyj (Qtm n st c) (fun _=>none) (fun r=>(Qlv n st l).map (Qnu n c r :: ·))
theorem Q46 {n:GNet}:∀{l:List (List Qaa)},Qqx n l=0→∀c∈l,FedV n c
 |[],_,c,h=>by cases h
 |d::l,h0,c,h=>by
  rw[Qqx] at h0
  by_cases hd:fedI n d=0
  ·rw[if_pos hd] at h0
   rcases List.mem_cons.1 h with rfl |h
   ·exact Zb0 hd
   ·exact Q46 h0 c h
  ·rw[if_neg hd] at h0
   exact absurd h0 hd
def Zg0 (n:GNet) (st:List Int) (l:List (List Qaa)):List Qdn×Bool:=match Qlv n st l with |some w=>(w,true) |none=>([],false)
theorem Zcp {N:Nat}{n:GNet}(hs:Qib n) (hN:1001≤N) (hv:NetV n) {st:List Int}(hst:StV n st) {l:List (List Qaa)}(hl:l.length≤1000) (hf:∀c∈l,FedV n c):∀(m i:Nat) (acc:List Qdn),(l.drop i).length<m→acc.length=i →
  Qdi N n st (fun y=>some (y,true)) l m acc i=some (match Qlv n st (l.drop i) with |some w=>(acc++w,true) |none=>([],false)):=by
 intro m
 induction m with
 |zero=>intro i _ h;cases h
 |succ m ih=>
  intro i acc h ha
  rw[Qdi]
  cases hd:l.drop i with
  |nil=>
   have:=Qb2 hd
   rw[decide_eq_false (show ¬((i:Int)<(l.length:Int)) by omega),cond_false,Qlv]
   simp
  |cons c q=>
   obtain⟨hg,hd',hlt⟩:=Qbp hd
   have hfc:=hf c (List.mem_of_getElem? hg)
   rw[decide_eq_true (show(i:Int)<(l.length:Int) by omega),cond_true,Qb1 hg,Option.bind_some,Zo3 hs hN hv hfc hst,Qlv]
   cases hT:Qtm n st c with
   |inl a=>
    simp only[Qyj,Option.bind_some,Sum.elim_inl]
    rw[decide_eq_true (show(a:Int)≥0 by omega),cond_true]
   |inr r=>
    have hR:=Qok hv hfc hst hT
    have e1:=hR.inv.lo
    have e2:=hR.inv.ll
    have e0:=Qv7 hst
    have e3:r.2.2.1.length=n.Elements.length:=by rw[hR.ss,List.length_zipWith];omega
    simp only[Qyj,Option.bind_some,Sum.elim_inr,show decide ((-1:Int)≥0)=false from rfl,cond_false,chk,Int.toNat_natCast]
    rw[show decide (n.Elements.length≤r.1.length)=true by simp;omega,show decide (n.Elements.length≤r.2.1.length)=true by simp;omega,show decide (st.length≤r.2.2.1.length)=true by simp;omega,List.take_of_length_le (by omega),List.take_of_length_le (by omega),List.take_of_length_le (by omega),cond_true,cond_true,cond_true]
    have hih:=ih (i+1) (acc++[Qnu n c r]) (dlt hd hd' h) (by simp[ha])
    rw[hd'] at hih
    show(bif decide ((acc.length+[Qnu n c r].length)*8≤140737488355328) then Qdi N n st (fun y=>some (y,true)) l m (acc++[Qnu n c r]) (w64 ((i:Int)+1)) else none)=_
    rw[show decide ((acc.length+[Qnu n c r].length)*8≤140737488355328)=true by simp;omega,cond_true,w64S (i:=i) (by omega),hih]
    cases Qlv n st q with
    |none=>rfl
    |some w=>simp
theorem Zcq {N:Nat}{n:GNet}(hs:Qib n) (hN:1001≤N) (hv:NetV n) {st:List Int}(hst:StV n st) {l:List (List Qaa)}(hl:l.length≤1000) (hf:∀c∈l,FedV n c):Qht N n st l=some (Zg0 n st l):=by
 unfold Qht
 rw[Qe1]
 refine(Zcp hs hN hv hst hl hf N 0 [] (by simp;omega) rfl).trans ?_
 unfold Zg0
 rw[List.drop_zero]
 cases Qlv n st l<;>rfl
def fstL:Nat→List Qbg→Option Nat
 |_,[]=>none
 |i,x::l=>if x.Scale>0 then some i else fstL (i+1) l
def unsL:Nat→List Qdn→Int×Int
 |_,[]=>(-1,-1)
 |k,w::l=>match fstL 0 w.Tick.Lost with |some i=>((k:Int),(i:Int)) |none=>unsL (k+1) l
end
section
open Go.RowKit
section
variable {N : Nat} {n : GNet} (hs : Qib n) (hN : 1001 ≤ N)
include hs
include hN
end
end
section
open Go.RowKit
def wdR (r:Qkp) (v:Int):Qkp:=⟨if v<r.Lo then v else r.Lo,if v>r.Hi then v else r.Hi⟩
def rngF (f:Qdn→Int):List Qdn→Qkp
 |[]=>⟨0,0⟩
 |w::l=>l.foldl (fun r x=>wdR r (f x)) ⟨f w,f w⟩
theorem Ze0 (f:Qdn→Int) {W:List Qdn}(h:W≠[]) (x:Qdn):rngF f (W++[x])=wdR (rngF f W) (f x):=by
 cases W with
 |nil=>exact absurd rfl h
 |cons w l=>rw[List.cons_append,rngF,rngF,List.foldl_append];rfl
def Has (w:Qdn) (p:Qbk):Prop:=∃r,getI w.Tick.Out p.Element=some r∧getI r p.Outlet=some (Qhw w.Tick.Out p)
def Zo0 (p:Qbk) (w:Qdn):Int:=(Qhw w.Tick.Out p).Mass
def Zo1 (p:Qbk) (w:Qdn):Int:=(Qhw w.Tick.Out p).Heat
def Zb3 (p:Qbk) (w:Qdn):Int:=(Qhw w.Tick.Out p).Silica
def fGas (p:Qbk) (w:Qdn):Int:=(Qhw w.Tick.Out p).Gas
end
section
open Go.RowKit
theorem Zow {n:GNet}{ws:List Qaa}{r:Qvu}(hI:InvT n ws n.Elements.length r.1 r.2.1) {p:Qbk}(hp:p∈Zl0 n) (c:List Qaa):Has (Qnu n c r) p:=by
 obtain⟨h1,h2,q,h3,h4⟩:=Zkx hI hp
 exact⟨q,by show getI r.1 p.Element=_;unfold getI;rw[if_pos h1,h3],by unfold getI;rw[if_pos h2,h4];rfl⟩
section
variable {N : Nat} {n : GNet} (hs : Qib n) (hN : 1001 ≤ N)
include hs
end
end
section
open Go.RowKit
section
variable {N : Nat} {n : GNet} (hs : Qib n) (hN : 1001 ≤ N) (hv : NetV n) {st : List Int} (hst : StV n st) {l : List (List Qaa)} (hl : l.length ≤ 1000) (hf : ∀ c ∈ l, FedV n c)
include hs hN hv hst hl hf
omit hs hN hv hst hl hf in
end
end
section
open Go.RowKit
theorem Q6e (N:Nat) (y:Int) (w:Qdn) (hL:w.Tick.Lost.length≤1000) (k:Unit→Option (Int×Int)):∀(m j:Nat),(w.Tick.Lost.drop j).length<m→Qev N y k w m j=match fstL j (w.Tick.Lost.drop j) with |some q=>some (y,(q:Int)) |none=>k ():=by
 intro m
 induction m with
 |zero=>intro j h;cases h
 |succ m ih=>
  intro j h
  rw[Qev]
  cases hd:w.Tick.Lost.drop j with
  |nil=>
   have:=Qb2 hd
   rw[decide_eq_false (show ¬((j:Int)<(w.Tick.Lost.length:Int)) by omega),cond_false,fstL]
  |cons x q=>
   obtain⟨hg,hd',hlt⟩:=Qbp hd
   rw[decide_eq_true (show(j:Int)<(w.Tick.Lost.length:Int) by omega),cond_true,Qb1 hg,Option.bind_some,fstL]
   by_cases hx:x.Scale>0
   ·rw[decide_eq_true hx,cond_true,if_pos hx]
   ·rw[decide_eq_false hx,cond_false,if_neg hx,w64S (i:=j) (by omega),ih (j+1) (dlt hd hd' h),hd']
theorem Q93 {N:Nat}(hN:1001≤N) (W:List Qdn) (hl:W.length≤1000) (hL:∀w∈W,w.Tick.Lost.length≤1000):∀(m i:Nat),(W.drop i).length<m→Qew N W (fun _=>some (-1,-1)) m i=some (unsL i (W.drop i)):=by
 intro m
 induction m with
 |zero=>intro i h;cases h
 |succ m ih=>
  intro i h
  rw[Qew]
  cases hd:W.drop i with
  |nil=>
   have:=Qb2 hd
   rw[decide_eq_false (show ¬((i:Int)<(W.length:Int)) by omega),cond_false,unsL]
  |cons w q=>
   obtain⟨hg,hd',hlt⟩:=Qbp hd
   have hw:=hL w (List.mem_of_getElem? hg)
   rw[decide_eq_true (show(i:Int)<(W.length:Int) by omega),cond_true,Qe1,Qb1 hg,Option.bind_some]
   refine(Q6e N (i:Int) w hw _ N 0 (by simp;omega)).trans ?_
   rw[List.drop_zero,unsL]
   cases fstL 0 w.Tick.Lost with
   |some z=>rfl
   |none=>
    dsimp only
    rw[w64S (i:=i) (by omega),ih (i+1) (dlt hd hd' h),hd']
theorem Q94 {N:Nat}(hN:1001≤N) {W:List Qdn}(hl:W.length≤1000) (hL:∀w∈W,w.Tick.Lost.length≤1000):Qix N W=some (unsL 0 W):=by
 unfold Qix
 rw[Qe1]
 have:=Q93 hN W hl hL N 0 (by simp;omega)
 rw[List.drop_zero] at this
 exact this
theorem Qu2 {n:GNet}(hs:Qib n) (hv:NetV n) {st:List Int}(hst:StV n st):∀{l:List (List Qaa)}{W:List Qdn},(∀c∈l,FedV n c)→Qlv n st l=some W→W.length=l.length∧∀w∈W,w.Tick.Lost.length≤1000∧∀p∈Zl0 n,Has w p
 |[],W,_,h=>by rw[Qlv] at h;cases h;simp
 |c::l,W,hf,h=>by
  have hfc:=hf c List.mem_cons_self
  rw[Qlv] at h
  cases hT:Qtm n st c with
  |inl a=>rw[hT] at h;cases h
  |inr r=>
   rw[hT] at h
   have hR:=Qok hv hfc hst hT
   have hll:=hR.inv.ll
   have e0:=hs.e
   have h':(Qlv n st l).map (Qnu n c r :: ·)=some W:=h
   rw[Option.map_eq_some_iff] at h'
   obtain⟨W',h1,rfl⟩:=h'
   obtain⟨a,b⟩:=Qu2 hs hv hst (fun d hd=>hf d (List.mem_cons_of_mem _ hd)) h1
   refine⟨by simp[a],fun w hw=>?_⟩
   rcases List.mem_cons.1 hw with rfl |hw
   ·exact⟨by show r.2.1.length≤1000;omega,fun p hp=>Zow hR.inv hp c⟩
   ·exact b w hw
def unsA (n:GNet) (st:List Int) (l:List (List Qaa)):Int×Int×Int:=if Qh7 n st l=0 then(match Qlv n st l with |some W=>((unsL 0 W).1,(unsL 0 W).2,0) |none=>(0,0,11)) else(0,0,Qh7 n st l)
theorem Qmv {n:GNet}{st:List Int}{l:List (List Qaa)}(h:Qh7 n st l=0):NetV n∧StV n st∧(∀c∈l,FedV n c)∧1≤l.length:=by
 unfold Qh7 at h
 cases hb:netB n&&stB n st with
 |false=>rw[hb] at h;cases h
 |true=>
  rw[hb,cond_true] at h
  rw[Bool.and_eq_true] at hb
  cases h6:btw (l.length:Int) 1 6 with
  |false=>rw[h6] at h;cases h
  |true=>
   rw[h6,cond_true] at h
   have:=Qgj.1 h6
   exact⟨Qm5 hb.1,Zim hb.2,Q46 h,by omega⟩
section
variable {N : Nat} {n : GNet} (hs : Qib n) (hN : 1001 ≤ N) {l : List (List Qaa)} (hl : l.length ≤ 1000) (hc : ∀ c ∈ l, c.length ≤ 1000) {st : List Int} (hl2 : st.length ≤ 1000)
include hs hN hl hc hl2
theorem Zj8:Qiz N n st l=some (unsA n st l):=by
 unfold Qiz unsA
 rw[Q40 hs hN hl hc hl2,Option.bind_some]
 by_cases hg:Qh7 n st l=0
 ·obtain⟨hv,hst,hf,h1⟩:=Qmv hg
  rw[if_pos hg,hg,bne_self_eq_false,cond_false,Zcq hs hN hv hst hl hf,Option.bind_some]
  unfold Zg0
  cases hd:Qlv n st l with
  |none=>rfl
  |some W=>
   obtain⟨a,b⟩:=Qu2 hs hv hst hf hd
   dsimp only
   rw[Bool.not_true,cond_false,Q94 hN (by omega) fun w hw=>(b w hw).1,Option.bind_some]
 ·rw[if_neg hg,show(Qh7 n st l != 0)=true by simpa using hg,cond_true]
end
end
section
open Go.RowKit
structure StT (n:GNet) (st:List Int) (t:Nat):Prop where
 len:st.length=n.Elements.length
 bd:∀d∈st,0≤d∧d≤1000000000000+10000000000*(t:Int)
theorem StT.v {n:GNet}{st:List Int}{t:Nat}(h:StT n st t) (ht:t≤1000):StV n st:=
 ⟨h.len,fun d hd=>by have:=h.bd d hd;omega⟩
section
variable {N : Nat} {n : GNet} (hs : Qib n) (hN : 1001 ≤ N) (hv : NetV n) {ws : List Qaa} (hf : FedV n ws) {most : Nat} (hm : most ≤ 1000)
include hs hN hv hf hm
end
end
section
set_option maxRecDepth 100000
set_option maxHeartbeats 4000000
open Go.RowKit
end
section
open Go.RowKit
theorem Q91 (f:Qdn→Int):∀(l:List Qdn) (r:Qkp),r.Lo≤r.Hi →
  (l.foldl (fun r x=>wdR r (f x)) r).Lo≤r.Lo∧r.Hi≤(l.foldl (fun r x=>wdR r (f x)) r).Hi∧(∀x∈l,(l.foldl (fun r x=>wdR r (f x)) r).Lo≤f x∧f x≤(l.foldl (fun r x=>wdR r (f x)) r).Hi) ∧
  ((l.foldl (fun r x=>wdR r (f x)) r).Lo=r.Lo∨∃x∈l,f x=(l.foldl (fun r x=>wdR r (f x)) r).Lo)∧((l.foldl (fun r x=>wdR r (f x)) r).Hi=r.Hi∨∃x∈l,f x=(l.foldl (fun r x=>wdR r (f x)) r).Hi)
 |[],r,_=>⟨Int.le_refl _,Int.le_refl _,fun x h=>(by cases h),.inl rfl,.inl rfl⟩
 |w::l,r,h=>by
  rw[List.foldl_cons]
  have hw:(wdR r (f w)).Lo≤r.Lo∧(wdR r (f w)).Lo≤f w∧r.Hi≤(wdR r (f w)).Hi∧f w≤(wdR r (f w)).Hi∧((wdR r (f w)).Lo=r.Lo∨(wdR r (f w)).Lo=f w)∧((wdR r (f w)).Hi=r.Hi∨(wdR r (f w)).Hi=f w):=by
   unfold wdR
   dsimp only
   split<;>split<;>omega
  obtain⟨a,b,c,d,e⟩:=Q91 f l (wdR r (f w)) (by omega)
  refine⟨by omega,by omega,fun x hx=>?_,?_,?_⟩
  ·rcases List.mem_cons.1 hx with rfl |hx
   ·omega
   ·exact c x hx
  ·rcases d with d |⟨x,hx,d⟩
   ·rcases hw.2.2.2.2.1 with h1 |h1
    ·exact .inl (by omega)
    ·exact .inr ⟨w,List.mem_cons_self,by omega⟩
   ·exact .inr ⟨x,List.mem_cons_of_mem _ hx,d⟩
  ·rcases e with e |⟨x,hx,e⟩
   ·rcases hw.2.2.2.2.2 with h1 |h1
    ·exact .inl (by omega)
    ·exact .inr ⟨w,List.mem_cons_self,by omega⟩
   ·exact .inr ⟨x,List.mem_cons_of_mem _ hx,e⟩
theorem Zir (f:Qdn→Int) {W:List Qdn}(h:W≠[]):(∀x∈W,(rngF f W).Lo≤f x∧f x≤(rngF f W).Hi)∧(∃x∈W,f x=(rngF f W).Lo)∧∃x∈W,f x=(rngF f W).Hi:=by
 cases W with
 |nil=>exact absurd rfl h
 |cons w l=>
  obtain⟨a,b,c,d,e⟩:=Q91 f l ⟨f w,f w⟩ (Int.le_refl _)
  rw[rngF]
  refine⟨fun x hx=>?_,?_,?_⟩
  ·rcases List.mem_cons.1 hx with rfl |hx
   ·exact⟨a,b⟩
   ·exact c x hx
  ·rcases d with d |⟨x,hx,d⟩
   ·exact⟨w,List.mem_cons_self,d.symm⟩
   ·exact⟨x,List.mem_cons_of_mem _ hx,d⟩
  ·rcases e with e |⟨x,hx,e⟩
   ·exact⟨w,List.mem_cons_self,e.symm⟩
   ·exact⟨x,List.mem_cons_of_mem _ hx,e⟩
structure InC (s:Qaa) (W:List Qdn) (p:Qbk):Prop where
 m:(rngF (Zo0 p) W).Lo≤s.Mass∧s.Mass≤(rngF (Zo0 p) W).Hi
 h:(rngF (Zo1 p) W).Lo≤s.Heat∧s.Heat≤(rngF (Zo1 p) W).Hi
 q:(rngF (Zb3 p) W).Lo≤s.Silica∧s.Silica≤(rngF (Zb3 p) W).Hi
 g:(rngF (fGas p) W).Lo≤s.Gas∧s.Gas≤(rngF (fGas p) W).Hi
theorem Qq1 {n:GNet}{st:List Int}:∀{l:List (List Qaa)}{W:List Qdn},Qlv n st l=some W→W.length=l.length∧∀(i:Nat) c,l[i]? = some c→∃r,Qtm n st c=.inr r∧W[i]? = some (Qnu n c r)
 |[],W,h=>by rw[Qlv] at h;cases h;exact⟨rfl,fun i c h=>by simp at h⟩
 |d::l,W,h=>by
  rw[Qlv] at h
  cases hT:Qtm n st d with
  |inl a=>rw[hT] at h;cases h
  |inr r=>
   rw[hT] at h
   have h':(Qlv n st l).map (Qnu n d r :: ·)=some W:=h
   rw[Option.map_eq_some_iff] at h'
   obtain⟨W',h1,rfl⟩:=h'
   obtain⟨a,b⟩:=Qq1 h1
   refine⟨by simp[a],fun i c hc=>?_⟩
   cases i with
   |zero=>simp at hc;subst hc;exact⟨r,hT,rfl⟩
   |succ i=>simp at hc;obtain⟨q,h2,h3⟩:=b i c hc;exact⟨q,h2,by simpa using h3⟩
theorem Q43:∀{l:List Qbg}{i:Nat},fstL i l=none→∀x∈l,¬x.Scale>0
 |[],_,_,x,h=>by cases h
 |y::l,i,h,x,hx=>by
  rw[fstL] at h
  by_cases hy:y.Scale>0
  ·rw[if_pos hy] at h;cases h
  ·rw[if_neg hy] at h
   rcases List.mem_cons.1 hx with rfl |hx
   ·exact hy
   ·exact Q43 h x hx
theorem Qy9:∀(W:List Qdn) (k:Nat),((unsL k W).1=-1∧∀w∈W,∀x∈w.Tick.Lost,¬x.Scale>0)∨((k:Int)≤(unsL k W).1∧(unsL k W).1<(k:Int)+W.length)
 |[],k=>.inl ⟨rfl,fun w h=>by cases h⟩
 |w::W,k=>by
  rw[unsL]
  cases hf:fstL 0 w.Tick.Lost with
  |some i=>exact .inr ⟨Int.le_refl _,by simp;omega⟩
  |none=>
   dsimp only
   rcases Qy9 W (k+1) with ⟨a,b⟩ |⟨a,b⟩
   ·refine .inl ⟨a,fun v hv=>?_⟩
    rcases List.mem_cons.1 hv with rfl |hv
    ·exact Q43 hf
    ·exact b v hv
   ·exact .inr ⟨by omega,by simp;omega⟩
theorem Qpu {n:GNet}{st:List Int}{l:List (List Qaa)}(h:Qh7 n st l=0):netB n=true∧∀c∈l,Qo8 n st c=0:=by
 unfold Qh7 at h
 cases hb:netB n&&stB n st with
 |false=>rw[hb] at h;cases h
 |true=>
  rw[hb,cond_true] at h
  cases h6:btw (l.length:Int) 1 6 with
  |false=>rw[h6] at h;cases h
  |true=>
   rw[h6,cond_true] at h
   have key:∀(l:List (List Qaa)),Qqx n l=0→∀c∈l,fedI n c=0:=fun l=>by
    induction l with
    |nil=>intro _ c h;cases h
    |cons d l ih=>
     intro h c hc
     rw[Qqx] at h
     by_cases hd:fedI n d=0
     ·rw[if_pos hd] at h
      rcases List.mem_cons.1 hc with rfl |hc
      ·exact hd
      ·exact ih h c hc
     ·rw[if_neg hd] at h;exact absurd h hd
   rw[Bool.and_eq_true] at hb
   exact⟨hb.1,fun c hc=>by unfold Qo8;rw[hb.1,hb.2];exact key l h c hc⟩
end
section
set_option maxRecDepth 100000
set_option maxHeartbeats 4000000
open Go.RowKit
def Qcn (_N:Nat) (p0:List GRow):Option (List GRow):=
  bif p0.isEmpty then
   some ([])
  else
   chk (decide ((([]:List GRow).length+p0.length)*40≤140737488355328))<|
   some (([]:List GRow)++p0)
def Q31:AV:=.acc 0 160 5 ((([]:List GRow):List GRow).map Qaq)
def Q30 (p0:List GRow):AV:=.acc 1 160 5 ((([]:List GRow)++p0:List GRow).map Qaq)
theorem Qfn (N:Nat) (p0 r:List GRow) (h:Qcn N p0=some r):Spec prog 104 [(.dat 5 (p0.map Qaq))] [] (.dat 5 (r.map Qaq)) []:=by
  refine Qan func104 rfl 0 (nle rfl) (fun X φ0 w0 hφ0 hd0=>?_)
  unfold Qcn at h
  refine wxz<|wsq ?_
  refine bfe h (fun hz2 h=>?_) fun hz2 h=>?_
  ·refine Qs6 1 [mv 0 (.dat 5 (p0.map Qaq)),rp [(.tmp 3,(.dat 5 (p0.map Qaq))),((.const (.slice none 0 0)),nilS)] (B true)] [mv 0 (.dat 5 (p0.map Qaq)),rp [(.tmp 3,(.dat 5 (p0.map Qaq))),((.const (.slice none 0 0)),nilS)] (B false)] (by exact⟨by kernel_rfl,by kernel_rfl⟩) (by exact⟨by kernel_rfl,by kernel_rfl⟩) rfl rfl rfl rfl (Qog rfl underlying39 rfl) (⟨fun _ _=>amv rfl,fun _ h=>absurd rfl h,tv⟩) (⟨fun _ _=>amv rfl,fun _ h=>absurd rfl h,tv⟩) ?_ ?_
   ·refine wtr<|wxz<|Qaj<|Qal ?_
    obtain rfl:=osi h
    exact fend ⟨[(.dat 5 (([]:List GRow).map Qaq))],⟨Qb3 (v:=nilS) rot Less.nil,tv⟩,rfl⟩ (nld Qag _)
   ·replace h:(chk (decide ((([]:List GRow).length+p0.length)*40≤140737488355328))<|some (([]:List GRow)++p0))=some r:=by rw[List.isEmpty_iff.1 hz2];exact h
    refine wfa<|Qap<|thn ?_
    obtain⟨ha1,h⟩:=cko h
    refine wx tbk [(0,⟨[],[(0,.unused)],Q31,[(0,.tok)],false⟩),(2,⟨[(.tmp 5,Q31),(.tmp 6,(.dat 5 (p0.map Qaq)))],[(0,.tok),(1,.unused)],(Q30 p0),[(0,.dead),(1,.tok)],false⟩)] ⟨Qfg rfl underlying39 Qsp Qxj,Qek rfl underlying39 Zkd (Base.acc _ _) rfl rfl (Qji Qaq Q4r _) (Qhl Qaq ha1) (Qhk Qaq ha1 (by decide)) (Qhj Qaq) rfl rfl,tv⟩<|Qaj ?_
    obtain rfl:=osi h
    exact fend ⟨[(.dat 5 ((([]:List GRow)++p0:List GRow).map Qaq))],⟨Qb3 (v:=(Q30 p0)) rot Less.acc,tv⟩,rfl⟩ (nld Qag _)
  ·refine wx tbk [(1,rp [(.tmp 3,(.dat 5 (p0.map Qaq))),((.const (.slice none 0 0)),nilS)] (B false))] ⟨Qlp rfl underlying39 rfl (Qhi (emf hz2)),tv⟩<|wfa<|Qap<|thn ?_
   obtain⟨ha3,h⟩:=cko h
   refine wx tbk [(0,⟨[],[(0,.unused)],Q31,[(0,.tok)],false⟩),(2,⟨[(.tmp 5,Q31),(.tmp 6,(.dat 5 (p0.map Qaq)))],[(0,.tok),(1,.unused)],(Q30 p0),[(0,.dead),(1,.tok)],false⟩)] ⟨Qfg rfl underlying39 Qsp Qxj,Qek rfl underlying39 Zkd (Base.acc _ _) rfl rfl (Qji Qaq Q4r _) (Qhl Qaq ha3) (Qhk Qaq ha3 (by decide)) (Qhj Qaq) rfl rfl,tv⟩<|Qaj ?_
   obtain rfl:=osi h
   exact fend ⟨[(.dat 5 ((([]:List GRow)++p0:List GRow).map Qaq))],⟨Qb3 (v:=(Q30 p0)) rot Less.acc,tv⟩,rfl⟩ (nld Qag _)
def Qbx (_N:Nat) (p0:List Qae):Option Unit:=
  chk (!p0.isEmpty)<|
  chk (!p0.isEmpty)<|
  chk (decide ((0+p0.length)*88≤140737488355328))<|
  some ()
def Zii:AV:=.acc 0 133 7 ((([]:List Qae):List Qae).map Qac)
theorem Qel (N:Nat) (p0:List Qae) (r:Unit) (h:Qbx N p0=some r):Spec prog 105 [(.dat 7 (p0.map Qac))] [] (.own 0 7 (0) p0.length) [(.own 7 (p0.map Qac))]:=by
  refine Qan func105 rfl 1 (nle rfl) (fun X φ0 w0 hφ0 hd0=>?_)
  unfold Qbx at h
  refine Qbw<|wxz<|wsq ?_
  obtain⟨hz1,h⟩:=cko h
  refine wx tbk [(1,rp [(.tmp 3,(.dat 7 (p0.map Qac))),((.const (.slice none 0 0)),nilS)] (B false))] ⟨Qlp rfl underlying40 rfl (Qhi hz1),tv⟩<|wfa<|Qap<|thn ?_
  obtain⟨ha3,h⟩:=cko h
  obtain⟨ha2,h⟩:=cko h
  refine wx tbk [(0,⟨[],[(0,.unused)],Zii,[(0,.tok)],false⟩),(2,⟨[(.tmp 5,Zii),(.tmp 6,(.dat 7 (p0.map Qac)))],[(0,.tok),(1,.unused)],(.own 1 7 (0) p0.length),[(0,.dead),(1,(.own 7 (p0.map Qac)))],false⟩)] ⟨Qfg rfl underlying40 Qik Qza,Qwy rfl underlying40 Zol (Base.acc _ _) rfl rfl (Qhi ha3) (Qji Qac Qzz _) (Qyt Qac ha2) (Qys Qac ha2 (by decide)) (List.length_map _),tv⟩ ?_
  refine wmr (mto (n:=8) (l':=[(2,(.own 0 7 (0) p0.length))]) (own':=[(.own 7 (p0.map Qac))]) [(2,(.own 1 7 (0) p0.length))] [1] [(.own 7 (p0.map Qac))] hφ0 (pc (.rn (Qa2 rfl)) pn) (qc (spr Qab) qn))<|Qaj ?_
  obtain rfl:=osi h
  exact⟨_,Mor.rfl,Qc1 (vs:=[(.own 0 7 (0) p0.length)]) ⟨rot,tv⟩ rfl (NLt.own _ _ _ _ (by decide)) (by kernel_rfl) (Qao (Qb0 Qab _) Qbq)⟩
def Qcu (_N:Nat) (p0:List Qbk):Option (List Qbk):=
  bif p0.isEmpty then
   some ([])
  else
   chk (decide ((([]:List Qbk).length+p0.length)*16≤140737488355328))<|
   some (([]:List Qbk)++p0)
def Qti (p0:List Qbk):AV:=.dat 2 (p0.map Qay)
def Q3z:AV:=.acc 0 120 2 ((([]:List Qbk):List Qbk).map Qay)
def Q3y (p0:List Qbk):AV:=.acc 1 120 2 ((([]:List Qbk)++p0:List Qbk).map Qay)
def Zih (p0:List Qbk):AV:=.dat 2 ((([]:List Qbk)++p0:List Qbk).map Qay)
theorem Qf1 (N:Nat) (p0 r:List Qbk) (h:Qcu N p0=some r):Spec prog 106 [(.dat 2 (p0.map Qay))] [] (.dat 2 (r.map Qay)) []:=by
  refine Qan func106 rfl 0 (nle rfl) (fun X φ0 w0 hφ0 hd0=>?_)
  unfold Qcu at h
  refine wxz<|wsq ?_
  refine bfe h (fun hz2 h=>?_) fun hz2 h=>?_
  ·refine Qs6 1 [mv 0 (Qti p0),rp [(.tmp 3,(Qti p0)),((.const (.slice none 0 0)),nilS)] (B true)] [mv 0 (Qti p0),rp [(.tmp 3,(Qti p0)),((.const (.slice none 0 0)),nilS)] (B false)] (by exact⟨by kernel_rfl,by kernel_rfl⟩) (by exact⟨by kernel_rfl,by kernel_rfl⟩) rfl rfl rfl rfl (Qog rfl underlying116 rfl) (⟨fun _ _=>amv rfl,fun _ h=>absurd rfl h,tv⟩) (⟨fun _ _=>amv rfl,fun _ h=>absurd rfl h,tv⟩) ?_ ?_
   ·refine wtr<|wxz<|Qaj<|Qal ?_
    obtain rfl:=osi h
    exact fend ⟨[(.dat 2 (([]:List Qbk).map Qay))],⟨Qb3 (v:=nilS) rot Less.nil,tv⟩,rfl⟩ (nld Qba _)
   ·replace h:(chk (decide ((([]:List Qbk).length+p0.length)*16≤140737488355328))<|some (([]:List Qbk)++p0))=some r:=by rw[List.isEmpty_iff.1 hz2];exact h
    refine wfa<|Qap<|thn ?_
    obtain⟨ha1,h⟩:=cko h
    refine wx tbk [(0,⟨[],[(0,.unused)],Q3z,[(0,.tok)],false⟩),(2,⟨[(.tmp 5,Q3z),(.tmp 6,(Qti p0))],[(0,.tok),(1,.unused)],(Q3y p0),[(0,.dead),(1,.tok)],false⟩)] ⟨Qfg rfl underlying116 Qpi Qso,Qek rfl underlying116 Zep (Base.acc _ _) rfl rfl (Qji Qay Qzy _) (Qhl Qay ha1) (Qhk Qay ha1 (by decide)) (Qhj Qay) rfl rfl,tv⟩<|Qaj ?_
    obtain rfl:=osi h
    exact fend ⟨[(Zih p0)],⟨Qb3 (v:=(Q3y p0)) rot Less.acc,tv⟩,rfl⟩ (nld Qba _)
  ·refine wx tbk [(1,rp [(.tmp 3,(Qti p0)),((.const (.slice none 0 0)),nilS)] (B false))] ⟨Qlp rfl underlying116 rfl (Qhi (emf hz2)),tv⟩<|wfa<|Qap<|thn ?_
   obtain⟨ha3,h⟩:=cko h
   refine wx tbk [(0,⟨[],[(0,.unused)],Q3z,[(0,.tok)],false⟩),(2,⟨[(.tmp 5,Q3z),(.tmp 6,(Qti p0))],[(0,.tok),(1,.unused)],(Q3y p0),[(0,.dead),(1,.tok)],false⟩)] ⟨Qfg rfl underlying116 Qpi Qso,Qek rfl underlying116 Zep (Base.acc _ _) rfl rfl (Qji Qay Qzy _) (Qhl Qay ha3) (Qhk Qay ha3 (by decide)) (Qhj Qay) rfl rfl,tv⟩<|Qaj ?_
   obtain rfl:=osi h
   exact fend ⟨[(Zih p0)],⟨Qb3 (v:=(Q3y p0)) rot Less.acc,tv⟩,rfl⟩ (nld Qba _)
def Qfj (_N:Nat) (p0:List Int):Option (List Int):=
  bif p0.isEmpty then
   some ([])
  else
   chk (decide ((([]:List Int).length+p0.length)*8≤140737488355328))<|
   some (([]:List Int)++p0)
def Q3x:AV:=.acc 0 3 1 ((([]:List Int):List Int).map Qad)
def Q3w (p0:List Int):AV:=.acc 1 3 1 ((([]:List Int)++p0:List Int).map Qad)
theorem Qiw (N:Nat) (p0 r:List Int) (h:Qfj N p0=some r):Spec prog 95 [(.dat 1 (p0.map Qad))] [] (.dat 1 (r.map Qad)) []:=by
  refine Qan func95 rfl 0 (nle rfl) (fun X φ0 w0 hφ0 hd0=>?_)
  unfold Qfj at h
  refine wxz<|wsq ?_
  refine bfe h (fun hz2 h=>?_) fun hz2 h=>?_
  ·refine Qs6 1 [mv 0 (.dat 1 (p0.map Qad)),rp [(.tmp 3,(.dat 1 (p0.map Qad))),((.const (.slice none 0 0)),nilS)] (B true)] [mv 0 (.dat 1 (p0.map Qad)),rp [(.tmp 3,(.dat 1 (p0.map Qad))),((.const (.slice none 0 0)),nilS)] (B false)] (by exact⟨by kernel_rfl,by kernel_rfl⟩) (by exact⟨by kernel_rfl,by kernel_rfl⟩) rfl rfl rfl rfl (Qog rfl underlying27 rfl) (⟨fun _ _=>amv rfl,fun _ h=>absurd rfl h,tv⟩) (⟨fun _ _=>amv rfl,fun _ h=>absurd rfl h,tv⟩) ?_ ?_
   ·refine wtr<|wxz<|Qaj<|Qal ?_
    obtain rfl:=osi h
    exact fend ⟨[(.dat 1 (([]:List Int).map Qad))],⟨Qb3 (v:=nilS) rot Less.nil,tv⟩,rfl⟩ (nld Qaf _)
   ·replace h:(chk (decide ((([]:List Int).length+p0.length)*8≤140737488355328))<|some (([]:List Int)++p0))=some r:=by rw[List.isEmpty_iff.1 hz2];exact h
    refine wfa<|Qap<|thn ?_
    obtain⟨ha1,h⟩:=cko h
    refine wx tbk [(0,⟨[],[(0,.unused)],Q3x,[(0,.tok)],false⟩),(2,⟨[(.tmp 5,Q3x),(.tmp 6,(.dat 1 (p0.map Qad)))],[(0,.tok),(1,.unused)],(Q3w p0),[(0,.dead),(1,.tok)],false⟩)] ⟨Qfg rfl underlying27 ti3 tz3,Qek rfl underlying27 te3 (Base.acc _ _) rfl rfl (Qji Qad Qh3 _) (Qhl Qad ha1) (Qhk Qad ha1 (by decide)) (Qhj Qad) rfl rfl,tv⟩<|Qaj ?_
    obtain rfl:=osi h
    exact fend ⟨[(.dat 1 ((([]:List Int)++p0:List Int).map Qad))],⟨Qb3 (v:=(Q3w p0)) rot Less.acc,tv⟩,rfl⟩ (nld Qaf _)
  ·refine wx tbk [(1,rp [(.tmp 3,(.dat 1 (p0.map Qad))),((.const (.slice none 0 0)),nilS)] (B false))] ⟨Qlp rfl underlying27 rfl (Qhi (emf hz2)),tv⟩<|wfa<|Qap<|thn ?_
   obtain⟨ha3,h⟩:=cko h
   refine wx tbk [(0,⟨[],[(0,.unused)],Q3x,[(0,.tok)],false⟩),(2,⟨[(.tmp 5,Q3x),(.tmp 6,(.dat 1 (p0.map Qad)))],[(0,.tok),(1,.unused)],(Q3w p0),[(0,.dead),(1,.tok)],false⟩)] ⟨Qfg rfl underlying27 ti3 tz3,Qek rfl underlying27 te3 (Base.acc _ _) rfl rfl (Qji Qad Qh3 _) (Qhl Qad ha3) (Qhk Qad ha3 (by decide)) (Qhj Qad) rfl rfl,tv⟩<|Qaj ?_
   obtain rfl:=osi h
   exact fend ⟨[(.dat 1 ((([]:List Int)++p0:List Int).map Qad))],⟨Qb3 (v:=(Q3w p0)) rot Less.acc,tv⟩,rfl⟩ (nld Qaf _)
def Qdf (N:Nat) (p0:GNet) (p1:List Int) (k12:(List Qae)→Option GNet) (x15:List Int):Nat→Int→(List Qae)→Option GNet
  |0,_,_=>none
  |n20+1,y16,y17=>
    bif (decide (y16<(x15.length:Int))) then
     (getI x15 y16).bind fun x22=>
     (getI p1 y16).bind fun x26=>
     chk (decide (0≤x22)&&decide (x22.toNat<p0.Elements.length))<|
     (y17[x22.toNat]?).bind fun x31=>
     Qdf N p0 p1 k12 x15 n20 (w64 (y16+1)) (y17.set x22.toNat (⟨x31.Kind,x31.From,x26,x31.Amount,x31.Wide,x31.Narrow,x31.Weights⟩:Qae))
    else
     k12 (y17)
def Qde (N:Nat) (p0:GNet) (k10:(List Qae)→Option GNet):Nat→Int→(List Qae)→Option GNet
  |0,_,_=>none
  |n37+1,y33,y34=>
    bif (decide (y33<(p0.Elements.length:Int))) then
     (getI p0.Elements y33).bind fun x39=>
     (Qcu N x39.From).bind fun x44=>
     (Qfj N x39.Weights).bind fun x46=>
     chk (decide (0≤y33)&&decide (y33.toNat<p0.Elements.length))<|
     (y34[y33.toNat]?).bind fun x48=>
     chk (decide (0≤y33)&&decide (y33.toNat<p0.Elements.length))<|
     ((y34.set y33.toNat (⟨x48.Kind,x44,x48.Level,x48.Amount,x48.Wide,x48.Narrow,x48.Weights⟩:Qae))[y33.toNat]?).bind fun x51=>
     Qde N p0 k10 n37 (w64 (y33+1)) ((y34.set y33.toNat (⟨x48.Kind,x44,x48.Level,x48.Amount,x48.Wide,x48.Narrow,x48.Weights⟩:Qae)).set y33.toNat (⟨x51.Kind,x51.From,x51.Level,x51.Amount,x51.Wide,x51.Narrow,x46⟩:Qae))
    else
     k10 (y34)
def Qhg (N:Nat) (p0:GNet) (p1:List Int):Option GNet:=
  (Qcn N p0.Table).bind fun x6=>
  (Qbx N p0.Elements).bind fun _=>
  Qbl (fun y9=>
    Qbl (fun y11=>
      chk (decide (p0.Elements.length≤y11.length))<|
      some (⟨x6,y11.take p0.Elements.length⟩:GNet)) fun k12:(List Qae)→Option GNet=>
    (Qf2 N p0 4).bind fun x15=>
    Qdf N p0 p1 k12 x15 N 0 y9) fun k10:(List Qae)→Option GNet=>
  Qde N p0 k10 N 0 p0.Elements
def Znz (p0:GNet):AV:=.dat 5 (p0.Table.map Qaq)
def Qv3 (p0:GNet):AV:=.dat 7 (p0.Elements.map Qac)
def Q9m (p0:GNet):Slot:=.own 7 (p0.Elements.map Qac)
def Qv2 (p0:GNet):Slot:=.own 2 [[(Znz p0),(Qv3 p0)]]
def Qrh (x6:List GRow) (p0:GNet):Slot:=.own 2 [[(.dat 5 (x6.map Qaq)),(.own 3 7 (0) p0.Elements.length)]]
def Qph (x6:List GRow) (p0:GNet):Slot:=.own 2 [[(.dat 5 (x6.map Qaq)),(.own 2 7 (0) p0.Elements.length)]]
def Qxf (y11:List Qae) (p0:GNet):AV:=.dat 7 ((y11.take p0.Elements.length:List Qae).map Qac)
def Q33 (y17:List Qae) (x22:Int) (x31:Qae) (x26:Int):Slot:=.own 7 ((y17.set x22.toNat (⟨x31.Kind,x31.From,x26,x31.Amount,x31.Wide,x31.Narrow,x31.Weights⟩:Qae):List Qae).map Qac)
def Qxe (y34:List Qae) (y33:Int) (x48:Qae) (x44:List Qbk):Slot:=.own 7 ((y34.set y33.toNat (⟨x48.Kind,x44,x48.Level,x48.Amount,x48.Wide,x48.Narrow,x48.Weights⟩:Qae):List Qae).map Qac)
def Q32 (y34:List Qae) (y33:Int) (x48:Qae) (x44:List Qbk) (x51:Qae) (x46:List Int):Slot:=.own 7 (((y34.set y33.toNat (⟨x48.Kind,x44,x48.Level,x48.Amount,x48.Wide,x48.Narrow,x48.Weights⟩:Qae)).set y33.toNat (⟨x51.Kind,x51.From,x51.Level,x51.Amount,x51.Wide,x51.Narrow,x46⟩:Qae):List Qae).map Qac)
theorem Qsr (N:Nat) (p0:GNet) (p1:List Int) (r:GNet) (h:Qhg N p0 p1=some r):Spec prog 68 [(.agg (Qf6 p0)),(.dat 1 (p1.map Qad))] [] (.agg [(.dat 5 (r.Table.map Qaq)),(.dat 7 (r.Elements.map Qac))]) []:=by
  refine Qan func68 rfl 0 (nle rfl) (fun X φ0 w0 hφ0 hd0=>?_)
  unfold Qhg at h
  refine Qbw<|wxz ?_
  obtain⟨x6,hf5,h⟩:=bno h
  obtain⟨x8,hf7,h⟩:=bno h
  refine wxd tbk [(2,rp _ _),(5,⟨_,_,_,_,false⟩),(6,rp _ _)] ⟨apv Q5i (Qfn N p0.Table _ hf5) (nlc (nld Qag _) nl0) (nld Qag _),Qav (first:=[]) (cap:=[]) (vs:=[(Qv3 p0)]) (σr:=[]) (σr':=[(Q9m p0)]) (res':=(.own 2 7 (0) p0.Elements.length)) [2] rfl Q5h (Qel N p0.Elements _ hf7) rfl (Qbs (rnc (pld Qab) rn0)) Qau (slc (Qa9 Qab) Qau) (Qc0 rfl) rfl rfl rfl,Qa5 (vs:=[(.dat 5 (x6.map Qaq)),(.own 2 7 (0) p0.Elements.length)]) rfl ts42 tz42 rfl (by rfl) rfl,tv⟩ ?_
  obtain⟨k10,hk_k10,h⟩:=jko h
  refine wjn (τ:=(List Qae)) (fun t=>k10 t=some r) (fun y9=>⟨mk 61 [(1,(.dat 1 (p1.map Qad))),(2,.ref 0 2 0 0),(4,.ref 1 2 0 0),(5,.ref 2 2 0 0)],[(Qv2 p0),(.own 2 [[nilS,nilS]]),(Qrh x6 p0),(.own 7 (y9.map Qac))]⟩) (fun y9 h=>?_) ?_
  ·subst hk_k10
   obtain⟨k12,hk_k12,h⟩:=jko h
   refine wjn (τ:=(List Qae)) (fun t=>k12 t=some r) (fun y11=>⟨mk 61 [(4,.ref 0 2 0 0),(5,.ref 1 2 0 0)],[(.own 2 [[nilS,nilS]]),(Qph x6 p0),(.own 7 (y11.map Qac))]⟩) (fun y11 h=>?_) ?_
   ·subst hk_k12
    refine wxz ?_
    obtain⟨hz13,h⟩:=cko h
    refine wmr (Quj (n:=61) (mp:=2) (m:=7) (xs:=y11.map Qac) (c:=[(.dat 5 (x6.map Qaq)),(.own 2 7 (0) p0.Elements.length)]) (l':=[(4,.ref 0 2 0 0)]) (c':=[(.dat 5 (x6.map Qaq)),(Qxf y11 p0)]) (own':=[(.own 2 [[(.dat 5 (x6.map Qaq)),(Qxf y11 p0)]]),(Qph x6 p0),.dead]) 2 0 [(4,.ref 0 2 0 0)] (by kernel_rfl) (by kernel_rfl) (by kernel_rfl) (by kernel_rfl) ⟨(.same _),(Qmc hz13),tv⟩ ⟨rfl,(.same _),tv⟩ (by kernel_rfl)) ?_
    refine wmr (mto (n:=61) (l':=[(4,.ref 0 2 0 0)]) (own':=[(.own 2 [[(.dat 5 ((((⟨x6,y11.take p0.Elements.length⟩:GNet).Table):List GRow).map Qaq)),(.dat 7 ((((⟨x6,y11.take p0.Elements.length⟩:GNet).Elements):List Qae).map Qac))]])]) [(4,.ref 0 2 0 0)] [0] [(.own 2 [[(.dat 5 (x6.map Qaq)),(Qxf y11 p0)]])] hφ0 (prr pn) (qb (lc (rnd Qag) (lc (rnd Qab) ln)) qn))<|Qaj ?_
    obtain rfl:=osi h
    exact⟨_,Mor.rfl,⟨⟨[(.agg [(.dat 5 (((⟨x6,y11.take p0.Elements.length⟩:GNet).Table:List GRow).map Qaq)),(.dat 7 (((⟨x6,y11.take p0.Elements.length⟩:GNet).Elements:List Qae).map Qac))])],⟨Qbu (n:=0) (m:=2) (j:=0) (i:=0) (xs:=[[(.dat 5 (((⟨x6,y11.take p0.Elements.length⟩:GNet).Table:List GRow).map Qaq)),(.dat 7 (((⟨x6,y11.take p0.Elements.length⟩:GNet).Elements:List Qae).map Qac))]]) (by kernel_rfl) (by kernel_rfl) ti42 (by decide) rfl (nle rfl) rfl,tv⟩,rfl⟩,(NLt.agg _ (nlc (nld Qag _) (nlc (nld Qab _) nl0))),Nat.le_refl _,fun n hn=>absurd hn (Nat.not_lt_zero n)⟩⟩
   ·skip
    obtain⟨x15,hf14,h⟩:=bno h
    refine wx tbk [(1,rp _ _),(2,rp _ _)] ⟨apv Qpw (Qgf N p0 4 _ hf14) (nlc (NLt.agg _ (nlc (nld Qag _) (nlc (nld Qab _) nl0))) (nlc nll nl0)) (nld Qaf _),alq 1 Qad x15 underlying27,tv⟩<|Qar ?_
    refine wmr (mto (n:=61) (l':=[(1,(.dat 1 (p1.map Qad))),(4,.ref 0 2 0 0),(5,.ref 1 2 0 0),(43,(.dat 1 (x15.map Qad))),(44,(I ((x15.length:Int)))),(45,I 0)]) (own':=[(.own 2 [[nilS,nilS]]),(Qph x6 p0),(.own 7 (y9.map Qac))]) [(1,(.dat 1 (p1.map Qad))),(4,.ref 1 2 0 0),(5,.ref 2 2 0 0),(43,(.dat 1 (x15.map Qad))),(44,(I ((x15.length:Int)))),(45,I 0)] [1,2,3] [(.own 2 [[nilS,nilS]]),(Qrh x6 p0),(.own 7 (y9.map Qac))] hφ0 (pc (rnd Qaf) (prr (prr (pc (rnd Qaf) (pw (pw pn)))))) (qb (lcc ln) (qb (lc (rnd Qag) (lc (.rn (Qa2 rfl)) ln)) (qc (spr Qab) qn)))) ?_
    refine Qbt (τ:=Int×(List Qae)) (fun n t=>Qdf N p0 p1 k12 x15 n t.1 t.2=some r) (fun ⟨y16,y17⟩=>⟨mk 61 [(1,(.dat 1 (p1.map Qad))),(4,.ref 0 2 0 0),(5,.ref 1 2 0 0),(43,(.dat 1 (x15.map Qad))),(44,(I ((x15.length:Int)))),(45,I y16)],[(.own 2 [[nilS,nilS]]),(Qph x6 p0),(.own 7 (y17.map Qac))]⟩) (fun t h=>by rw[Qdf] at h;cases h) (fun n20 ih t h=>?_) N (0,y9) h
    obtain⟨y16,y17⟩:=t
    rw[Qdf] at h
    skip
    refine wxz<|wsq ?_
    refine bfe h (fun hc21 h=>?_) fun hc21 h=>?_
    ·refine wft hc21<|Qap<|thn<|wsq<|Qar ?_
     obtain⟨x22,hg23,h⟩:=bno h
     obtain⟨hi24,hj25⟩:=gsm hg23
     refine wx tbk [(1,rp _ _)] ⟨aiq underlying27 ti3 Qad hi24 hj25,tv⟩ ?_
     obtain⟨x26,hg27,h⟩:=bno h
     obtain⟨hi28,hj29⟩:=gsm hg27
     obtain⟨hi30,h⟩:=cko h
     obtain⟨hi30a,hi30b⟩:=Qdv hi30
     obtain⟨x31,hg32,h⟩:=bno h
     refine wy1 tbk [(5,rp _ _),(7,rb [(.tmp 51,(.own 2 7 (0) p0.Elements.length)),(.tmp 52,I x22)] [(2,(.own 7 (y17.map Qac)))] (.ref 2 7 x22.toNat 0)),(9,⟨[(.tmp 58,(.ref 2 7 x22.toNat 2)),(.tmp 56,I x26)],[(2,(.own 7 (y17.map Qac)))],.any,[(2,(Q33 y17 x22 x31 x26))],false⟩)] ⟨aiq underlying27 ti3 Qad hi28 hj29,aio rfl underlying40 Qik (odt hi30a) (odt hi30b) (Nat.zero_add _),ast rfl ti3 (by rfl) (mgt Qac hg32) (nle rfl) (Qf0 Qac rfl),tv⟩<|bln<|thn<|wxz1<|thn ?_
     exact arm (mto (n:=61) [(1,(.dat 1 (p1.map Qad))),(4,.ref 0 2 0 0),(5,.ref 1 2 0 0),(43,(.dat 1 (x15.map Qad))),(44,(I ((x15.length:Int)))),(45,(I (w64 (y16+1))))] [0,1,2] [(.own 2 [[nilS,nilS]]),(Qph x6 p0),(Q33 y17 x22 x31 x26)] hφ0 (pc (rnd Qaf) (prr (prr (pc (rnd Qaf) (pw (pw pn)))))) (qb (lcc ln) (qb (lc (rnd Qag) (lc (.rn (Qa2 rfl)) ln)) (qc (spr Qab) qn)))) (ih (w64 (y16+1),y17.set x22.toNat (⟨x31.Kind,x31.From,x26,x31.Amount,x31.Wide,x31.Narrow,x31.Weights⟩:Qae)) h)
    ·exact wfn hc21<|Qbf<|Qaw<|Qaw<|Qbe rfl<|thn<|⟨(y17),h,(mto (n:=61) [(4,.ref 0 2 0 0),(5,.ref 1 2 0 0)] [0,1,2] [(.own 2 [[nilS,nilS]]),(Qph x6 p0),(.own 7 (y17.map Qac))] hφ0 (prr (prr pn)) (qb (lcc ln) (qb (lc (rnd Qag) (lc (.rn (Qa2 rfl)) ln)) (qc (spr Qab) qn))))⟩
  ·skip
   refine wx tbk [(2,rp _ _)] ⟨alq 7 Qac p0.Elements underlying40,tv⟩<|Qar ?_
   refine wmr (mto (n:=61) (l':=[(1,(.dat 1 (p1.map Qad))),(2,.ref 0 2 0 0),(4,.ref 1 2 0 0),(5,.ref 2 2 0 0),(18,(Qv3 p0)),(19,(I ((p0.Elements.length:Int)))),(20,I 0)]) (own':=[(Qv2 p0),(.own 2 [[nilS,nilS]]),(Qrh x6 p0),(Q9m p0)]) [(1,(.dat 1 (p1.map Qad))),(2,.ref 0 2 0 0),(4,.ref 1 2 0 0),(5,.ref 3 2 0 0),(18,(Qv3 p0)),(19,(I ((p0.Elements.length:Int)))),(20,I 0)] [0,1,3,2] [(Qv2 p0),(.own 2 [[nilS,nilS]]),(Qph x6 p0),(Q9m p0)] hφ0 (pc (rnd Qaf) (prr (prr (prr (pc (rnd Qab) (pw (pw pn))))))) (qb (lc (rnd Qag) (lc (rnd Qab) ln)) (qb (lcc ln) (qb (lc (rnd Qag) (lc (.rn (Qa2 rfl)) ln)) (qc (spr Qab) qn))))) ?_
   refine Qbt (τ:=Int×(List Qae)) (fun n t=>Qde N p0 k10 n t.1 t.2=some r) (fun ⟨y33,y34⟩=>⟨mk 61 [(1,(.dat 1 (p1.map Qad))),(2,.ref 0 2 0 0),(4,.ref 1 2 0 0),(5,.ref 2 2 0 0),(18,(Qv3 p0)),(19,(I ((p0.Elements.length:Int)))),(20,I y33)],[(Qv2 p0),(.own 2 [[nilS,nilS]]),(Qrh x6 p0),(.own 7 (y34.map Qac))]⟩) (fun t h=>by rw[Qde] at h;cases h) (fun n37 ih t h=>?_) N (0,p0.Elements) h
   obtain⟨y33,y34⟩:=t
   rw[Qde] at h
   skip
   refine wxz<|wsq ?_
   refine bfe h (fun hc38 h=>?_) fun hc38 h=>?_
   ·refine wft hc38<|Qap<|thn<|wsq<|Qar ?_
    obtain⟨x39,hg40,h⟩:=bno h
    obtain⟨hi41,hj42⟩:=gsm hg40
    refine wx tbk [(1,rp _ _)] ⟨aiq underlying40 Qik Qac hi41 hj42,tv⟩ ?_
    obtain⟨x44,hf43,h⟩:=bno h
    obtain⟨x46,hf45,h⟩:=bno h
    obtain⟨hi47,h⟩:=cko h
    obtain⟨hi47a,hi47b⟩:=Qdv hi47
    obtain⟨x48,hg49,h⟩:=bno h
    obtain⟨hi50,h⟩:=cko h
    obtain⟨hi50a,hi50b⟩:=Qdv hi50
    obtain⟨x51,hg52,h⟩:=bno h
    refine wy1 tbk [(8,rp _ _),(11,rp _ _),(12,rb [(.tmp 26,(.own 3 7 (0) p0.Elements.length)),(.tmp 27,I y33)] [(3,(.own 7 (y34.map Qac)))] (.ref 3 7 y33.toNat 0)),(14,⟨[(.tmp 38,(.ref 3 7 y33.toNat 1)),(.tmp 33,(.dat 2 (x44.map Qay)))],[(3,(.own 7 (y34.map Qac)))],.any,[(3,(Qxe y34 y33 x48 x44))],false⟩),(15,rb [(.tmp 29,(.own 3 7 (0) p0.Elements.length)),(.tmp 30,I y33)] [(3,(Qxe y34 y33 x48 x44))] (.ref 3 7 y33.toNat 0)),(17,⟨[(.tmp 40,(.ref 3 7 y33.toNat 6)),(.tmp 36,(.dat 1 (x46.map Qad)))],[(3,(Qxe y34 y33 x48 x44))],.any,[(3,(Q32 y34 y33 x48 x44 x51 x46))],false⟩)] ⟨apv Q5g (Qf1 N x39.From _ hf43) (nlc (nld Qba _) nl0) (nld Qba _),apv Q2g (Qiw N x39.Weights _ hf45) (nlc (nld Qaf _) nl0) (nld Qaf _),aio rfl underlying40 Qik (odt hi47a) (odt hi47b) (Nat.zero_add _),ast rfl Q99 (by rfl) (mgt Qac hg49) (nle rfl) (Qf0 Qac rfl),aio rfl underlying40 Qik (odt hi50a) (odt hi50b) (Nat.zero_add _),ast rfl ti27 (by rfl) (mgt Qac hg52) (nle rfl) (Qf0 Qac rfl),tv⟩<|bln<|thn<|wxz1<|thn ?_
    exact arm (mto (n:=61) [(1,(.dat 1 (p1.map Qad))),(2,.ref 0 2 0 0),(4,.ref 1 2 0 0),(5,.ref 2 2 0 0),(18,(Qv3 p0)),(19,(I ((p0.Elements.length:Int)))),(20,(I (w64 (y33+1))))] [0,1,2,3] [(Qv2 p0),(.own 2 [[nilS,nilS]]),(Qrh x6 p0),(Q32 y34 y33 x48 x44 x51 x46)] hφ0 (pc (rnd Qaf) (prr (prr (prr (pc (rnd Qab) (pw (pw pn))))))) (qb (lc (rnd Qag) (lc (rnd Qab) ln)) (qb (lcc ln) (qb (lc (rnd Qag) (lc (.rn (Qa2 rfl)) ln)) (qc (spr Qab) qn))))) (ih (w64 (y33+1),(y34.set y33.toNat (⟨x48.Kind,x44,x48.Level,x48.Amount,x48.Wide,x48.Narrow,x48.Weights⟩:Qae)).set y33.toNat (⟨x51.Kind,x51.From,x51.Level,x51.Amount,x51.Wide,x51.Narrow,x46⟩:Qae)) h)
   ·exact wfn hc38<|Qbf<|Qaw<|Qaw<|Qbe rfl<|thn<|⟨(y34),h,(mto (n:=61) [(1,(.dat 1 (p1.map Qad))),(2,.ref 0 2 0 0),(4,.ref 1 2 0 0),(5,.ref 2 2 0 0)] [0,1,2,3] [(Qv2 p0),(.own 2 [[nilS,nilS]]),(Qrh x6 p0),(.own 7 (y34.map Qac))] hφ0 (pc (rnd Qaf) (prr (prr (prr pn)))) (qb (lc (rnd Qag) (lc (rnd Qab) ln)) (qb (lcc ln) (qb (lc (rnd Qag) (lc (.rn (Qa2 rfl)) ln)) (qc (spr Qab) qn)))))⟩
def Qml (N:Nat) (p0:GNet) (p1:List Int):Option (GNet×Int):=
  Qbl (fun _=>
    (Qhg N p0 p1).bind fun x3=>
    (Qex N x3).bind fun x5=>
    bif (!x5) then
     some ((⟨[],[]⟩:GNet),1)
    else
     some (x3,0)) fun k1:Unit→Option (GNet×Int)=>
  (Qex N p0).bind fun x8=>
  bif (!x8) then
   some ((⟨[],[]⟩:GNet),1)
  else
   (Qf2 N p0 4).bind fun x11=>
   bif ((p1.length:Int) != (x11.length:Int)) then
    some ((⟨[],[]⟩:GNet),1)
   else
    k1 ()
def Q9p (p0:GNet):AV:=.dat 7 (p0.Elements.map Qac)
def Zik (p0:GNet):AV:=.agg [(.dat 5 (p0.Table.map Qaq)),(Q9p p0)]
def Zij (x3:GNet):AV:=.dat 7 (x3.Elements.map Qac)
def Zn0 (x3:GNet):AV:=.agg [(.dat 5 (x3.Table.map Qaq)),(Zij x3)]
def Q9o:AV:=.dat 5 (([]:List GRow).map Qaq)
def Q9n:AV:=.dat 7 (([]:List Qae).map Qac)
def Q1q (p0:GNet) (x8:Bool):List (Nat×Rec):=[(1,rp [fu 66,((.tmp 7),(Zik p0))] (B x8))]
theorem Qr9 (N:Nat) (p0:GNet) (p1:List Int) (r:(GNet×Int)) (h:Qml N p0 p1=some r):Spec prog 27 [(.agg (Qf6 p0)),(.dat 1 (p1.map Qad))] [] (.tup [(.agg (Qf6 r.1)),(I r.2)]) []:=by
  refine Qan func27 rfl 0 (nle rfl) (fun X φ0 w0 hφ0 hd0=>?_)
  unfold Qml at h
  refine wxz ?_
  obtain⟨k1,hk_k1,h⟩:=jko h
  refine wjn (τ:=Unit) (fun t=>k1 t=some r) (fun _=>⟨mk 27 [(1,(.dat 1 (p1.map Qad))),(2,.ref 0 2 0 0),(4,.ref 1 2 0 0)],[(.own 2 [[(.dat 5 (p0.Table.map Qaq)),(Q9p p0)]]),(.own 2 [[nilS,nilS]])]⟩) (fun t h=>?_) ?_
  ·subst hk_k1
   obtain⟨x3,hf2,h⟩:=bno h
   refine wx tbk [(2,rp _ _)] ⟨apv Zce (Qsr N p0 p1 _ hf2) (nlc (NLt.agg _ (nlc (nld Qag _) (nlc (nld Qab _) nl0))) (nlc (nld Qaf _) nl0)) (NLt.agg _ (nlc (nld Qag _) (nlc (nld Qab _) nl0))),tv⟩<|wsq ?_
   obtain⟨x5,hf4,h⟩:=bno h
   refine wx tbk [(1,rp _ _)] ⟨apv Quy (Qgv N x3 _ hf4) (nlc (NLt.agg _ (nlc (nld Qag _) (nlc (nld Qab _) nl0))) nl0) nll,tv⟩ ?_
   refine bfe h (fun hc6 h=>?_) fun hc6 h=>?_
   ·refine wft hc6<|wx tbk [(0,rp _ _)] ⟨Qa5 (vs:=[]) rfl ts42 tz42 rfl (by rfl) rfl,tv⟩<|Qaj<|Qal ?_
    obtain rfl:=osi h
    exact fend ⟨[(.agg [Q9o,Q9n]),I 1],⟨Qb3 (v:=(.agg [nilS,nilS])) (Qbu (n:=1) (m:=2) (j:=0) (i:=0) (xs:=[[nilS,nilS]]) (by kernel_rfl) (by kernel_rfl) ti42 (by decide) rfl (nle rfl) rfl) (Less.agg ⟨Less.nil,Less.nil,tv⟩),rot,tv⟩,rfl⟩ (NLt.tup _ (nlc (NLt.agg _ (nlc (nld Qag _) (nlc (nld Qab _) nl0))) (nlc nll nl0)))
   ·refine wfn hc6<|Qap<|thn<|wxz<|Qaj ?_
    obtain rfl:=osi h
    exact fend ⟨[(Zn0 x3),I 0],⟨Qbu (n:=1) (m:=2) (j:=0) (i:=0) (xs:=[[(.dat 5 (x3.Table.map Qaq)),(Zij x3)]]) (by kernel_rfl) (by kernel_rfl) ti42 (by decide) rfl (nle rfl) rfl,rot,tv⟩,rfl⟩ (NLt.tup _ (nlc (NLt.agg _ (nlc (nld Qag _) (nlc (nld Qab _) nl0))) (nlc nll nl0)))
  ·skip
   obtain⟨x8,hf7,h⟩:=bno h
   refine hpre (A:=(Q1q p0 x8)) ⟨apv Quy (Qgv N p0 _ hf7) (nlc (NLt.agg _ (nlc (nld Qag _) (nlc (nld Qab _) nl0))) nl0) nll,tv⟩ fun q1_=>?_
   refine bfe h (fun hb9 h=>?_) fun hb9 h=>?_
   ·refine wx tbk (hcat (Q1q p0 x8) [(3,rp [(.tmp 9,(B ((!x8))))] (B true))]) (hap q1_ ⟨asb hb9 (amv rfl),tv⟩)<|wtr ?_
    refine wx tbk [(0,rp _ _)] ⟨Qa5 (vs:=[]) rfl ts42 tz42 rfl (by rfl) rfl,tv⟩<|Qaj<|Qal ?_
    obtain rfl:=osi h
    exact fend ⟨[(.agg [Q9o,Q9n]),I 1],⟨Qb3 (v:=(.agg [nilS,nilS])) (Qbu (n:=1) (m:=2) (j:=0) (i:=0) (xs:=[[nilS,nilS]]) (by kernel_rfl) (by kernel_rfl) ti42 (by decide) rfl (nle rfl) rfl) (Less.agg ⟨Less.nil,Less.nil,tv⟩),rot,tv⟩,rfl⟩ (NLt.tup _ (nlc (NLt.agg _ (nlc (nld Qag _) (nlc (nld Qab _) nl0))) (nlc nll nl0)))
   ·obtain⟨x11,hf10,h⟩:=bno h
    refine wx tbk (hcat (Q1q p0 x8) [(3,rp [(.tmp 9,(B ((!x8))))] (B false)),(5,rp [(.tmp 10,B false),(.tmp 11,(.dat 1 (p1.map Qad)))] (I ((p1.length:Int)))),(7,rp [(.tmp 10,B false),fu 67,(.tmp 13,(Zik p0)),(.const (.int .u8 4),(K .u8 (4)))] (.dat 1 (x11.map Qad))),(8,rp [(.tmp 10,B false),(.tmp 14,(.dat 1 (x11.map Qad)))] (I ((x11.length:Int))))]) (hap q1_ ⟨asb hb9 (amv rfl),ag_ (alq 1 Qad p1 underlying27),ag_ (apv Qpw (Qgf N p0 4 _ hf10) (nlc (NLt.agg _ (nlc (nld Qag _) (nlc (nld Qab _) nl0))) (nlc nll nl0)) (nld Qaf _)),ag_ (alq 1 Qad x11 underlying27),tv⟩) ?_
    refine bfe h (fun hc12 h=>?_) fun hc12 h=>?_
    ·refine wft hc12<|wx tbk [(0,rp _ _)] ⟨Qa5 (vs:=[]) rfl ts42 tz42 rfl (by rfl) rfl,tv⟩<|Qaj<|Qal ?_
     obtain rfl:=osi h
     exact fend ⟨[(.agg [Q9o,Q9n]),I 1],⟨Qb3 (v:=(.agg [nilS,nilS])) (Qbu (n:=1) (m:=2) (j:=0) (i:=0) (xs:=[[nilS,nilS]]) (by kernel_rfl) (by kernel_rfl) ti42 (by decide) rfl (nle rfl) rfl) (Less.agg ⟨Less.nil,Less.nil,tv⟩),rot,tv⟩,rfl⟩ (NLt.tup _ (nlc (NLt.agg _ (nlc (nld Qag _) (nlc (nld Qab _) nl0))) (nlc nll nl0)))
    ·exact wfn hc12<|Qap<|thn<|⟨(),h,(mto (n:=27) [(1,(.dat 1 (p1.map Qad))),(2,.ref 0 2 0 0),(4,.ref 1 2 0 0)] [0,1] [(.own 2 [[(.dat 5 (p0.Table.map Qaq)),(Q9p p0)]]),(.own 2 [[nilS,nilS]])] hφ0 (pc (rnd Qaf) (prr (prr pn))) (qb (lc (rnd Qag) (lc (rnd Qab) ln)) (qb (lcc ln) qn)))⟩
end
section
open Go.RowKit
theorem Qp1 {α:Type}(l:List α) (c:Nat) (hc:c≤100) (h:l.length≤1000):(bif l.isEmpty then some ([]:List α) else chk (decide ((([]:List α).length+l.length)*c≤140737488355328))<|some ([]++l))=some l:=by
 cases l with
 |nil=>rfl
 |cons x q=>
  have h1:(([]:List α).length+(x::q).length)*c≤1000*100:=Nat.mul_le_mul (by simpa using h) hc
  rw[show(x::q).isEmpty=false from rfl,cond_false,List.nil_append]
  unfold chk
  rw[decide_eq_true (show(([]:List α).length+(x::q).length)*c≤140737488355328 by omega),cond_true]
theorem Zct (N:Nat) {l:List GRow}(h:l.length≤1000):Qcn N l=some l:=Qp1 l 40 (by omega) h
theorem Zcu (N:Nat) {l:List Qbk}(h:l.length≤1000):Qcu N l=some l:=Qp1 l 16 (by omega) h
theorem Zcv (N:Nat) {l:List Int}(h:l.length≤1000):Qfj N l=some l:=Qp1 l 8 (by omega) h
def lev (x:Qae) (v:Int):Qae:=⟨x.Kind,x.From,v,x.Amount,x.Wide,x.Narrow,x.Weights⟩
def putL:List Qae→List (Int×Int)→List Qae
 |acc,[]=>acc
 |acc,(i,v)::q=>putL (match acc[i.toNat]? with |some x=>acc.set i.toNat (lev x v) |none=>acc) q
theorem Qqm:∀(q:List (Int×Int)) (acc:List Qae),(putL acc q).length=acc.length
 |[],_=>rfl
 |(i,v)::q,acc=>by
  rw[putL,Qqm q]
  split<;>simp
theorem Q4j:∀(q:List (Int×Int)) (acc:List Qae),∀y∈putL acc q,∃x∈acc,y.From=x.From∧y.Weights=x.Weights
 |[],_,y,h=>⟨y,h,rfl,rfl⟩
 |(i,v)::q,acc,y,h=>by
  rw[putL] at h
  obtain⟨x,hx,h1,h2⟩:=Q4j q _ y h
  cases hg:acc[i.toNat]? with
  |none=>rw[hg] at hx;exact⟨x,hx,h1,h2⟩
  |some z=>
   rw[hg] at hx
   dsimp only at hx
   rcases List.mem_or_eq_of_mem_set hx with hx |rfl
   ·exact⟨x,hx,h1,h2⟩
   ·exact⟨z,List.mem_of_getElem? hg,h1,h2⟩
def setN (n:GNet) (v:List Int):GNet:=⟨n.Table,putL n.Elements ((ofL 4 0 n.Elements).zip v)⟩
theorem Qon {n:GNet}(hs:Qib n) (v:List Int):Qib (setN n v):=by
 refine⟨hs.t,?_,fun y hy=>?_⟩
 ·unfold setN
  rw[Qqm]
  exact hs.e
 ·obtain⟨x,hx,h1,h2⟩:=Q4j _ _ y hy
  rw[h1,h2]
  exact hs.x x hx
theorem Ziw {n:GNet}{z:Int}(h:z∈ofL 4 0 n.Elements):0≤z∧z.toNat<n.Elements.length:=by
 have:=Quh 4 n.Elements 0 z h
 omega
section
variable {N : Nat} {n : GNet} (hs : Qib n) (hN : 1001 ≤ N)
include hs
theorem Zao (k:List Qae→Option GNet):∀(m i:Nat),(n.Elements.drop i).length<m→Qde N n k m i n.Elements=k n.Elements:=by
 have e0:=hs.e
 intro m
 induction m with
 |zero=>intro i h;cases h
 |succ m ih=>
  intro i h
  rw[Qde]
  cases hd:n.Elements.drop i with
  |nil=>
   have:=Qb2 hd
   simp[show ¬((i:Int)<n.Elements.length) from by omega]
  |cons x q=>
   obtain⟨hg,hd',hlt⟩:=Qbp hd
   have hx:=hs.x x (List.mem_of_getElem? hg)
   have hset:n.Elements.set i x=n.Elements:=by
    rw[List.getElem?_eq_getElem hlt] at hg
    cases hg
    exact List.set_getElem_self hlt
   simp only[dlI hlt,cond_true,Qb1 hg,Option.bind_some,Zcu N (show x.From.length≤1000 by omega),Zcv N (show x.Weights.length≤1000 by omega),Int.toNat_natCast,chk,hg]
   rw[show(decide ((0:Int)≤(i:Int))&&decide (i<n.Elements.length))=true by simp;omega]
   simp only[cond_true,show(⟨x.Kind,x.From,x.Level,x.Amount,x.Wide,x.Narrow,x.Weights⟩:Qae)=x from rfl,hset,hg,Option.bind_some]
   rw[w64S (i:=i) (by omega)]
   exact ih (i+1) (dlt hd hd' h)
theorem Ze4 (v:List Int) (hv:v.length=(ofL 4 0 n.Elements).length) (k:List Qae→Option GNet):∀(m j:Nat) (acc:List Qae),((ofL 4 0 n.Elements).drop j).length<m→acc.length=n.Elements.length →
  Qdf N n v k (ofL 4 0 n.Elements) m j acc=k (putL acc (((ofL 4 0 n.Elements).drop j).zip (v.drop j))):=by
 have e0:=hs.e
 have e1:(ofL 4 0 n.Elements).length≤n.Elements.length:=by rw[Qjj];exact List.length_filter_le _ _
 intro m
 induction m with
 |zero=>intro j _ h;cases h
 |succ m ih=>
  intro j acc h ha
  rw[Qdf]
  cases hd:(ofL 4 0 n.Elements).drop j with
  |nil=>
   have:=Qb2 hd
   simp[show ¬((j:Int)<(ofL 4 0 n.Elements).length) from by omega,putL]
  |cons z q=>
   obtain⟨hg,hd',hlt⟩:=Qbp hd
   obtain⟨z0,z1⟩:=Ziw (List.mem_of_getElem? hg)
   have hgv:v[j]? = some (v[j]'(by omega)):=List.getElem?_eq_getElem _
   have hgx:acc[z.toNat]? = some (acc[z.toNat]'(by omega)):=List.getElem?_eq_getElem _
   rw[show v.drop j=v[j]'(by omega)::v.drop (j+1) from List.drop_eq_getElem_cons (by omega),List.zip_cons_cons,putL,hgx]
   simp only[dlI hlt,cond_true,Qb1 hg,Qb1 hgv,Option.bind_some,chk,hgx]
   rw[show(decide ((0:Int)≤z)&&decide (z.toNat<n.Elements.length))=true by simp;omega,cond_true,w64S (i:=j) (by omega)]
   rw[←hd']
   exact ih (j+1) _ (dlt hd hd' h) (by rw[List.length_set];exact ha)
include hN
theorem Zan {v:List Int}(hv:v.length=(ofL 4 0 n.Elements).length) (hne:1≤n.Elements.length):Qhg N n v=some (setN n v):=by
 have e0:=hs.e
 have t0:=hs.t
 have e1:(ofL 4 0 n.Elements).length≤n.Elements.length:=by rw[Qjj];exact List.length_filter_le _ _
 have hE:(!n.Elements.isEmpty)=true:=by
  cases h:n.Elements with
  |nil=>rw[h] at hne;simp at hne
  |cons=>rfl
 unfold Qhg Qbx
 simp only[Zct N (show n.Table.length≤1000 by omega),Option.bind_some,chk,hE,cond_true]
 rw[show decide ((0+n.Elements.length)*88≤140737488355328)=true by simp;omega,cond_true,Option.bind_some,Qe1]
 refine(Zao hs _ N 0 (by simp;omega)).trans ?_
 rw[Qe1,Qz0 hs hN 4,Option.bind_some]
 refine(Ze4 hs v hv _ N 0 _ (by simp;omega) rfl).trans ?_
 rw[List.drop_zero,List.drop_zero]
 show(bif decide (n.Elements.length≤(putL n.Elements _).length) then _ else _)=_
 rw[Qqm,decide_eq_true (Nat.le_refl _),cond_true,List.take_of_length_le (by rw[Qqm];exact Nat.le_refl _)]
 rfl
omit hN in
end
def netZ:GNet:=⟨[],[]⟩
def setA (n:GNet) (v:List Int):GNet×Int:=
 if netB n=true∧v.length=cntK n 4∧netB (setN n v)=true then(setN n v,0) else(netZ,1)
theorem Zin {N:Nat}{n:GNet}(hs:Qib n) (hN:1001≤N) {v:List Int}:Qml N n v=some (setA n v):=by
 have hof:(ofL 4 0 n.Elements).length=cntK n 4:=Qjj 4 _ _
 unfold Qml setA
 rw[Qe1,Qx1 hs hN,Option.bind_some]
 cases hb:netB n with
 |false=>rfl
 |true=>
  have hv:=Qm5 hb
  rw[Bool.not_true,cond_false,Qz0 hs hN 4,Option.bind_some,hof]
  by_cases hl:v.length=cntK n 4
  ·rw[show((v.length:Int) != (cntK n 4:Int))=false by rw[hl];simp,cond_false,Zan hs hN (by rw[hof,hl]) hv.len.1,Option.bind_some,Qx1 (Qon hs v) hN,Option.bind_some]
   cases hb2:netB (setN n v) with
   |false=>rw[if_neg (by simp)];rfl
   |true=>rw[if_pos ⟨rfl,hl,rfl⟩];rfl
  ·rw[show((v.length:Int) != (cntK n 4:Int))=true by rw[bne_iff_ne];omega,cond_true,if_neg (by simp[hl])]
   rfl
end
section
set_option maxRecDepth 100000
set_option maxHeartbeats 4000000
open Go.RowKit
def Qdt (N:Nat) (p0:GNet) (p1:Nat) (p2:List Int) (k12:(List Qae)→Option GNet) (x15:List Int):Nat→Int→(List Qae)→Option GNet
  |0,_,_=>none
  |n20+1,y16,y17=>
    bif (decide (y16<(x15.length:Int))) then
     (getI x15 y16).bind fun x22=>
     chk (decide (0≤y16)&&decide (y16.toNat<p1))<|
     (p2[y16.toNat]?).bind fun x27=>
     chk (decide (0≤x22)&&decide (x22.toNat<p0.Elements.length))<|
     (y17[x22.toNat]?).bind fun x30=>
     Qdt N p0 p1 p2 k12 x15 n20 (w64 (y16+1)) (y17.set x22.toNat (⟨x30.Kind,x30.From,x27,x30.Amount,x30.Wide,x30.Narrow,x30.Weights⟩:Qae))
    else
     k12 (y17)
def Qds (N:Nat) (p0:GNet) (k10:(List Qae)→Option GNet):Nat→Int→(List Qae)→Option GNet
  |0,_,_=>none
  |n36+1,y32,y33=>
    bif (decide (y32<(p0.Elements.length:Int))) then
     (getI p0.Elements y32).bind fun x38=>
     (Qcu N x38.From).bind fun x43=>
     (Qfj N x38.Weights).bind fun x45=>
     chk (decide (0≤y32)&&decide (y32.toNat<p0.Elements.length))<|
     (y33[y32.toNat]?).bind fun x47=>
     chk (decide (0≤y32)&&decide (y32.toNat<p0.Elements.length))<|
     ((y33.set y32.toNat (⟨x47.Kind,x43,x47.Level,x47.Amount,x47.Wide,x47.Narrow,x47.Weights⟩:Qae))[y32.toNat]?).bind fun x50=>
     Qds N p0 k10 n36 (w64 (y32+1)) ((y33.set y32.toNat (⟨x47.Kind,x43,x47.Level,x47.Amount,x47.Wide,x47.Narrow,x47.Weights⟩:Qae)).set y32.toNat (⟨x50.Kind,x50.From,x50.Level,x50.Amount,x50.Wide,x50.Narrow,x45⟩:Qae))
    else
     k10 (y33)
def Qh1 (N:Nat) (p0:GNet) (p1:Nat) (p2:List Int):Option GNet:=
  (Qcn N p0.Table).bind fun x6=>
  (Qbx N p0.Elements).bind fun _=>
  Qbl (fun y9=>
    Qbl (fun y11=>
      chk (decide (p0.Elements.length≤y11.length))<|
      some (⟨x6,y11.take p0.Elements.length⟩:GNet)) fun k12:(List Qae)→Option GNet=>
    (Qf2 N p0 4).bind fun x15=>
    Qdt N p0 p1 p2 k12 x15 N 0 y9) fun k10:(List Qae)→Option GNet=>
  Qds N p0 k10 N 0 p0.Elements
def Zh9 (p0:GNet):AV:=.dat 5 (p0.Table.map Qaq)
def Qtd (p0:GNet):AV:=.dat 7 (p0.Elements.map Qac)
def Znr (p0:GNet):AV:=.agg [(Zh9 p0),(Qtd p0)]
def Q9d (p0:GNet):Slot:=.own 7 (p0.Elements.map Qac)
def Qvy (p0:GNet):Slot:=.own 2 [[(Zh9 p0),(Qtd p0)]]
def Qrf (x6:List GRow) (p0:GNet):Slot:=.own 2 [[(.dat 5 (x6.map Qaq)),(.own 4 7 (0) p0.Elements.length)]]
def Qpf (x6:List GRow) (p0:GNet):Slot:=.own 2 [[(.dat 5 (x6.map Qaq)),(.own 3 7 (0) p0.Elements.length)]]
def Qw9 (y11:List Qae) (p0:GNet):AV:=.dat 7 ((y11.take p0.Elements.length:List Qae).map Qac)
def Q3r (y17:List Qae) (x22:Int) (x30:Qae) (x27:Int):Slot:=.own 7 ((y17.set x22.toNat (⟨x30.Kind,x30.From,x27,x30.Amount,x30.Wide,x30.Narrow,x30.Weights⟩:Qae):List Qae).map Qac)
def Qw8 (y33:List Qae) (y32:Int) (x47:Qae) (x43:List Qbk):Slot:=.own 7 ((y33.set y32.toNat (⟨x47.Kind,x43,x47.Level,x47.Amount,x47.Wide,x47.Narrow,x47.Weights⟩:Qae):List Qae).map Qac)
def Q3q (y33:List Qae) (y32:Int) (x47:Qae) (x43:List Qbk) (x50:Qae) (x45:List Int):Slot:=.own 7 (((y33.set y32.toNat (⟨x47.Kind,x43,x47.Level,x47.Amount,x47.Wide,x47.Narrow,x47.Weights⟩:Qae)).set y32.toNat (⟨x50.Kind,x50.From,x50.Level,x50.Amount,x50.Wide,x50.Narrow,x45⟩:Qae):List Qae).map Qac)
theorem Qqp (N:Nat) (p0:GNet) (p1:Nat) (p2:List Int) (r:GNet) (h:Qh1 N p0 p1 p2=some r):Spec prog 68 [(Znr p0),(.own 0 1 (0) p1)] [(.own 1 (p2.map Qad))] (.agg [(.dat 5 (r.Table.map Qaq)),(.dat 7 (r.Elements.map Qac))]) [(.own 1 (p2.map Qad)),(.own 2 [[(.dat 5 (r.Table.map Qaq)),(.dat 7 (r.Elements.map Qac))]])]:=by
  refine Qan func68 rfl 2 (nle rfl) (fun X φ0 w0 hφ0 hd0=>?_)
  unfold Qh1 at h
  refine Qbw<|wxz ?_
  obtain⟨x6,hf5,h⟩:=bno h
  obtain⟨x8,hf7,h⟩:=bno h
  refine wxd tbk [(2,rp _ _),(5,⟨_,_,_,_,false⟩),(6,rp _ _)] ⟨apv Q5i (Qfn N p0.Table _ hf5) (nlc (nld Qag _) nl0) (nld Qag _),Qav (first:=[]) (cap:=[]) (vs:=[(Qtd p0)]) (σr:=[]) (σr':=[(Q9d p0)]) (res':=(.own 3 7 (0) p0.Elements.length)) [3] rfl Q5h (Qel N p0.Elements _ hf7) rfl (Qbs (rnc (pld Qab) rn0)) Qau (slc (Qa9 Qab) Qau) (Qc0 rfl) rfl rfl rfl,Qa5 (vs:=[(.dat 5 (x6.map Qaq)),(.own 3 7 (0) p0.Elements.length)]) rfl ts42 tz42 rfl (by rfl) rfl,tv⟩ ?_
  obtain⟨k10,hk_k10,h⟩:=jko h
  refine wjn (τ:=(List Qae)) (fun t=>k10 t=some r) (fun y9=>⟨mk 61 [(1,(.own 0 1 (0) p1)),(2,.ref 1 2 0 0),(4,.ref 2 2 0 0),(5,.ref 3 2 0 0)],[(.own 1 (p2.map Qad)),(Qvy p0),(.own 2 [[nilS,nilS]]),(Qrf x6 p0),(.own 7 (y9.map Qac))]⟩) (fun y9 h=>?_) ?_
  ·subst hk_k10
   obtain⟨k12,hk_k12,h⟩:=jko h
   refine wjn (τ:=(List Qae)) (fun t=>k12 t=some r) (fun y11=>⟨mk 61 [(4,.ref 1 2 0 0),(5,.ref 2 2 0 0)],[(.own 1 (p2.map Qad)),(.own 2 [[nilS,nilS]]),(Qpf x6 p0),(.own 7 (y11.map Qac))]⟩) (fun y11 h=>?_) ?_
   ·subst hk_k12
    refine wxz ?_
    obtain⟨hz13,h⟩:=cko h
    refine wmr (Quj (n:=61) (mp:=2) (m:=7) (xs:=y11.map Qac) (c:=[(.dat 5 (x6.map Qaq)),(.own 3 7 (0) p0.Elements.length)]) (l':=[(4,.ref 1 2 0 0)]) (c':=[(.dat 5 (x6.map Qaq)),(Qw9 y11 p0)]) (own':=[(.own 1 (p2.map Qad)),(.own 2 [[(.dat 5 (x6.map Qaq)),(Qw9 y11 p0)]]),(Qpf x6 p0),.dead]) 3 1 [(4,.ref 1 2 0 0)] (by kernel_rfl) (by kernel_rfl) (by kernel_rfl) (by kernel_rfl) ⟨(.same _),(Qmc hz13),tv⟩ ⟨rfl,(.same _),tv⟩ (by kernel_rfl)) ?_
    refine wmr (mto (n:=61) (l':=[(4,.ref 1 2 0 0)]) (own':=[(.own 1 (p2.map Qad)),(.own 2 [[(.dat 5 ((((⟨x6,y11.take p0.Elements.length⟩:GNet).Table):List GRow).map Qaq)),(.dat 7 ((((⟨x6,y11.take p0.Elements.length⟩:GNet).Elements):List Qae).map Qac))]])]) [(4,.ref 1 2 0 0)] [0,1] [(.own 1 (p2.map Qad)),(.own 2 [[(.dat 5 (x6.map Qaq)),(Qw9 y11 p0)]])] hφ0 (prr pn) (qc (spr Qaf) (qb (lc (rnd Qag) (lc (rnd Qab) ln)) qn)))<|Qaj ?_
    obtain rfl:=osi h
    exact⟨_,Mor.rfl,Qc1 (vs:=[(.agg [(.dat 5 (((⟨x6,y11.take p0.Elements.length⟩:GNet).Table:List GRow).map Qaq)),(.dat 7 (((⟨x6,y11.take p0.Elements.length⟩:GNet).Elements:List Qae).map Qac))])]) ⟨Qbu (n:=1) (m:=2) (j:=0) (i:=0) (xs:=[[(.dat 5 (((⟨x6,y11.take p0.Elements.length⟩:GNet).Table:List GRow).map Qaq)),(.dat 7 (((⟨x6,y11.take p0.Elements.length⟩:GNet).Elements:List Qae).map Qac))]]) (by kernel_rfl) (by kernel_rfl) ti42 (by decide) rfl (nle rfl) rfl,tv⟩ rfl (NLt.of0 (NLt.agg _ (nlc (nld Qag _) (nlc (nld Qab _) nl0)))) (by kernel_rfl) (Qao (Qb0 Qaf _) (Qao (Qax (nlc (NLt.of0 (nld Qag _)) (nlc (NLt.of0 (nld Qab _)) nl0))) Qbq))⟩
   ·skip
    obtain⟨x15,hf14,h⟩:=bno h
    refine wx tbk [(1,rp _ _),(2,rp _ _)] ⟨apv Qpw (Qgf N p0 4 _ hf14) (nlc (NLt.agg _ (nlc (nld Qag _) (nlc (nld Qab _) nl0))) (nlc nll nl0)) (nld Qaf _),alq 1 Qad x15 underlying27,tv⟩<|Qar ?_
    refine wmr (mto (n:=61) (l':=[(1,(.own 0 1 (0) p1)),(4,.ref 1 2 0 0),(5,.ref 2 2 0 0),(43,(.dat 1 (x15.map Qad))),(44,(I ((x15.length:Int)))),(45,I 0)]) (own':=[(.own 1 (p2.map Qad)),(.own 2 [[nilS,nilS]]),(Qpf x6 p0),(.own 7 (y9.map Qac))]) [(1,(.own 0 1 (0) p1)),(4,.ref 2 2 0 0),(5,.ref 3 2 0 0),(43,(.dat 1 (x15.map Qad))),(44,(I ((x15.length:Int)))),(45,I 0)] [0,2,3,4] [(.own 1 (p2.map Qad)),(.own 2 [[nilS,nilS]]),(Qrf x6 p0),(.own 7 (y9.map Qac))] hφ0 (pc (.rn (Qa2 rfl)) (prr (prr (pc (rnd Qaf) (pw (pw pn)))))) (qc (spr Qaf) (qb (lcc ln) (qb (lc (rnd Qag) (lc (.rn (Qa2 rfl)) ln)) (qc (spr Qab) qn))))) ?_
    refine Qbt (τ:=Int×(List Qae)) (fun n t=>Qdt N p0 p1 p2 k12 x15 n t.1 t.2=some r) (fun ⟨y16,y17⟩=>⟨mk 61 [(1,(.own 0 1 (0) p1)),(4,.ref 1 2 0 0),(5,.ref 2 2 0 0),(43,(.dat 1 (x15.map Qad))),(44,(I ((x15.length:Int)))),(45,I y16)],[(.own 1 (p2.map Qad)),(.own 2 [[nilS,nilS]]),(Qpf x6 p0),(.own 7 (y17.map Qac))]⟩) (fun t h=>by rw[Qdt] at h;cases h) (fun n20 ih t h=>?_) N (0,y9) h
    obtain⟨y16,y17⟩:=t
    rw[Qdt] at h
    skip
    refine wxz<|wsq ?_
    refine bfe h (fun hc21 h=>?_) fun hc21 h=>?_
    ·refine wft hc21<|Qap<|thn<|wsq<|Qar ?_
     obtain⟨x22,hg23,h⟩:=bno h
     obtain⟨hi24,hj25⟩:=gsm hg23
     refine wx tbk [(1,rp _ _)] ⟨aiq underlying27 ti3 Qad hi24 hj25,tv⟩ ?_
     obtain⟨hi26,h⟩:=cko h
     obtain⟨hi26a,hi26b⟩:=Qdv hi26
     obtain⟨x27,hg28,h⟩:=bno h
     obtain⟨hi29,h⟩:=cko h
     obtain⟨hi29a,hi29b⟩:=Qdv hi29
     obtain⟨x30,hg31,h⟩:=bno h
     refine wy1 tbk [(5,rb [(.tmp 53,(.own 0 1 (0) p1)),(.tmp 54,I y16)] [(0,(.own 1 (p2.map Qad)))] (.ref 0 1 y16.toNat 0)),(6,rb [(.tmp 55,(.ref 0 1 y16.toNat 0))] [(0,(.own 1 (p2.map Qad)))] (I x27)),(7,rb [(.tmp 51,(.own 3 7 (0) p0.Elements.length)),(.tmp 52,I x22)] [(3,(.own 7 (y17.map Qac)))] (.ref 3 7 x22.toNat 0)),(9,⟨[(.tmp 58,(.ref 3 7 x22.toNat 2)),(.tmp 56,I x27)],[(3,(.own 7 (y17.map Qac)))],.any,[(3,(Q3r y17 x22 x30 x27))],false⟩)] ⟨aio rfl underlying27 ti3 (odt hi26a) (odt hi26b) (Nat.zero_add _),ald rfl ti3 (by decide) (mgt Qad hg28) (nle rfl) rfl,aio rfl underlying40 Qik (odt hi29a) (odt hi29b) (Nat.zero_add _),ast rfl ti3 (by rfl) (mgt Qac hg31) (nle rfl) (Qf0 Qac rfl),tv⟩<|bln<|thn<|wxz1<|thn ?_
     exact arm (mto (n:=61) [(1,(.own 0 1 (0) p1)),(4,.ref 1 2 0 0),(5,.ref 2 2 0 0),(43,(.dat 1 (x15.map Qad))),(44,(I ((x15.length:Int)))),(45,(I (w64 (y16+1))))] [0,1,2,3] [(.own 1 (p2.map Qad)),(.own 2 [[nilS,nilS]]),(Qpf x6 p0),(Q3r y17 x22 x30 x27)] hφ0 (pc (.rn (Qa2 rfl)) (prr (prr (pc (rnd Qaf) (pw (pw pn)))))) (qc (spr Qaf) (qb (lcc ln) (qb (lc (rnd Qag) (lc (.rn (Qa2 rfl)) ln)) (qc (spr Qab) qn))))) (ih (w64 (y16+1),y17.set x22.toNat (⟨x30.Kind,x30.From,x27,x30.Amount,x30.Wide,x30.Narrow,x30.Weights⟩:Qae)) h)
    ·exact wfn hc21<|Qbf<|Qaw<|Qaw<|Qbe rfl<|thn<|⟨(y17),h,(mto (n:=61) [(4,.ref 1 2 0 0),(5,.ref 2 2 0 0)] [0,1,2,3] [(.own 1 (p2.map Qad)),(.own 2 [[nilS,nilS]]),(Qpf x6 p0),(.own 7 (y17.map Qac))] hφ0 (prr (prr pn)) (qc (spr Qaf) (qb (lcc ln) (qb (lc (rnd Qag) (lc (.rn (Qa2 rfl)) ln)) (qc (spr Qab) qn)))))⟩
  ·skip
   refine wx tbk [(2,rp _ _)] ⟨alq 7 Qac p0.Elements underlying40,tv⟩<|Qar ?_
   refine wmr (mto (n:=61) (l':=[(1,(.own 0 1 (0) p1)),(2,.ref 1 2 0 0),(4,.ref 2 2 0 0),(5,.ref 3 2 0 0),(18,(Qtd p0)),(19,(I ((p0.Elements.length:Int)))),(20,I 0)]) (own':=[(.own 1 (p2.map Qad)),(Qvy p0),(.own 2 [[nilS,nilS]]),(Qrf x6 p0),(Q9d p0)]) [(1,(.own 0 1 (0) p1)),(2,.ref 1 2 0 0),(4,.ref 2 2 0 0),(5,.ref 4 2 0 0),(18,(Qtd p0)),(19,(I ((p0.Elements.length:Int)))),(20,I 0)] [0,1,2,4,3] [(.own 1 (p2.map Qad)),(Qvy p0),(.own 2 [[nilS,nilS]]),(Qpf x6 p0),(Q9d p0)] hφ0 (pc (.rn (Qa2 rfl)) (prr (prr (prr (pc (rnd Qab) (pw (pw pn))))))) (qc (spr Qaf) (qb (lc (rnd Qag) (lc (rnd Qab) ln)) (qb (lcc ln) (qb (lc (rnd Qag) (lc (.rn (Qa2 rfl)) ln)) (qc (spr Qab) qn)))))) ?_
   refine Qbt (τ:=Int×(List Qae)) (fun n t=>Qds N p0 k10 n t.1 t.2=some r) (fun ⟨y32,y33⟩=>⟨mk 61 [(1,(.own 0 1 (0) p1)),(2,.ref 1 2 0 0),(4,.ref 2 2 0 0),(5,.ref 3 2 0 0),(18,(Qtd p0)),(19,(I ((p0.Elements.length:Int)))),(20,I y32)],[(.own 1 (p2.map Qad)),(Qvy p0),(.own 2 [[nilS,nilS]]),(Qrf x6 p0),(.own 7 (y33.map Qac))]⟩) (fun t h=>by rw[Qds] at h;cases h) (fun n36 ih t h=>?_) N (0,p0.Elements) h
   obtain⟨y32,y33⟩:=t
   rw[Qds] at h
   skip
   refine wxz<|wsq ?_
   refine bfe h (fun hc37 h=>?_) fun hc37 h=>?_
   ·refine wft hc37<|Qap<|thn<|wsq<|Qar ?_
    obtain⟨x38,hg39,h⟩:=bno h
    obtain⟨hi40,hj41⟩:=gsm hg39
    refine wx tbk [(1,rp _ _)] ⟨aiq underlying40 Qik Qac hi40 hj41,tv⟩ ?_
    obtain⟨x43,hf42,h⟩:=bno h
    obtain⟨x45,hf44,h⟩:=bno h
    obtain⟨hi46,h⟩:=cko h
    obtain⟨hi46a,hi46b⟩:=Qdv hi46
    obtain⟨x47,hg48,h⟩:=bno h
    obtain⟨hi49,h⟩:=cko h
    obtain⟨hi49a,hi49b⟩:=Qdv hi49
    obtain⟨x50,hg51,h⟩:=bno h
    refine wy1 tbk [(8,rp _ _),(11,rp _ _),(12,rb [(.tmp 26,(.own 4 7 (0) p0.Elements.length)),(.tmp 27,I y32)] [(4,(.own 7 (y33.map Qac)))] (.ref 4 7 y32.toNat 0)),(14,⟨[(.tmp 38,(.ref 4 7 y32.toNat 1)),(.tmp 33,(.dat 2 (x43.map Qay)))],[(4,(.own 7 (y33.map Qac)))],.any,[(4,(Qw8 y33 y32 x47 x43))],false⟩),(15,rb [(.tmp 29,(.own 4 7 (0) p0.Elements.length)),(.tmp 30,I y32)] [(4,(Qw8 y33 y32 x47 x43))] (.ref 4 7 y32.toNat 0)),(17,⟨[(.tmp 40,(.ref 4 7 y32.toNat 6)),(.tmp 36,(.dat 1 (x45.map Qad)))],[(4,(Qw8 y33 y32 x47 x43))],.any,[(4,(Q3q y33 y32 x47 x43 x50 x45))],false⟩)] ⟨apv Q5g (Qf1 N x38.From _ hf42) (nlc (nld Qba _) nl0) (nld Qba _),apv Q2g (Qiw N x38.Weights _ hf44) (nlc (nld Qaf _) nl0) (nld Qaf _),aio rfl underlying40 Qik (odt hi46a) (odt hi46b) (Nat.zero_add _),ast rfl Q99 (by rfl) (mgt Qac hg48) (nle rfl) (Qf0 Qac rfl),aio rfl underlying40 Qik (odt hi49a) (odt hi49b) (Nat.zero_add _),ast rfl ti27 (by rfl) (mgt Qac hg51) (nle rfl) (Qf0 Qac rfl),tv⟩<|bln<|thn<|wxz1<|thn ?_
    exact arm (mto (n:=61) [(1,(.own 0 1 (0) p1)),(2,.ref 1 2 0 0),(4,.ref 2 2 0 0),(5,.ref 3 2 0 0),(18,(Qtd p0)),(19,(I ((p0.Elements.length:Int)))),(20,(I (w64 (y32+1))))] [0,1,2,3,4] [(.own 1 (p2.map Qad)),(Qvy p0),(.own 2 [[nilS,nilS]]),(Qrf x6 p0),(Q3q y33 y32 x47 x43 x50 x45)] hφ0 (pc (.rn (Qa2 rfl)) (prr (prr (prr (pc (rnd Qab) (pw (pw pn))))))) (qc (spr Qaf) (qb (lc (rnd Qag) (lc (rnd Qab) ln)) (qb (lcc ln) (qb (lc (rnd Qag) (lc (.rn (Qa2 rfl)) ln)) (qc (spr Qab) qn)))))) (ih (w64 (y32+1),(y33.set y32.toNat (⟨x47.Kind,x43,x47.Level,x47.Amount,x47.Wide,x47.Narrow,x47.Weights⟩:Qae)).set y32.toNat (⟨x50.Kind,x50.From,x50.Level,x50.Amount,x50.Wide,x50.Narrow,x45⟩:Qae)) h)
   ·exact wfn hc37<|Qbf<|Qaw<|Qaw<|Qbe rfl<|thn<|⟨(y33),h,(mto (n:=61) [(1,(.own 0 1 (0) p1)),(2,.ref 1 2 0 0),(4,.ref 2 2 0 0),(5,.ref 3 2 0 0)] [0,1,2,3,4] [(.own 1 (p2.map Qad)),(Qvy p0),(.own 2 [[nilS,nilS]]),(Qrf x6 p0),(.own 7 (y33.map Qac))] hφ0 (pc (.rn (Qa2 rfl)) (prr (prr (prr pn)))) (qc (spr Qaf) (qb (lc (rnd Qag) (lc (rnd Qab) ln)) (qb (lcc ln) (qb (lc (rnd Qag) (lc (.rn (Qa2 rfl)) ln)) (qc (spr Qab) qn))))))⟩
def Qe2 (_N:Nat) (p0:Qdn):Option Int:=
  some p0.steam
theorem Qhh (N:Nat) (p0:Qdn) (r:Int) (h:Qe2 N p0=some r):Spec prog 91 [(.dptr (Qky p0) 0)] [] (I r) []:=by
  refine Qan func91 rfl 0 (nle rfl) (fun X φ0 w0 hφ0 hd0=>?_)
  unfold Qe2 at h
  refine wxz<|wxz<|Qaj ?_
  obtain rfl:=osi h
  exact fend ⟨[I p0.steam],⟨rot,tv⟩,rfl⟩ nll
def Qcj (N:Nat) (p0:List Qdn) (k11:Int×Int→Option Qkp):Nat→Int→Int→Int→Option Qkp
  |0,_,_,_=>none
  |n19+1,y13,y14,y15=>
    bif (decide (y13<((p0.drop (1:Int).toNat).length:Int))) then
     (getI (p0.drop (1:Int).toNat) y13).bind fun x21=>
     (Qe2 N x21).bind fun x26=>
     (Qe2 N x21).bind fun x28=>
     Qcj N p0 k11 n19 (w64 (y13+1)) (if x26<y14 then x26 else y14) (if x28>y15 then x28 else y15)
    else
     k11 (y14,y15)
def Qe7 (N:Nat) (p0:List Qdn):Option Qkp:=
  (getI p0 0).bind fun x1=>
  (Qe2 N x1).bind fun x6=>
  (Qe2 N x1).bind fun x8=>
  Qbl (fun ⟨y9,y10⟩=>
    some (⟨y9,y10⟩:Qkp)) fun k11:Int×Int→Option Qkp=>
  chk (decide (0≤1)&&decide (1≤(p0.length:Int))&&decide ((p0.length:Int)≤(p0.length:Int)))<|
  Qcj N p0 k11 N 0 x6 x8
def Qvx:Slot:=.own 2 [[(I (0)),(I (0))]]
def Qy3 (p0:List Qdn):AV:=.dat 1 ((p0.drop (1:Int).toNat:List Qdn).map Qdo)
theorem Qma (N:Nat) (p0:List Qdn) (r:Qkp) (h:Qe7 N p0=some r):Spec prog 80 [(.dat 1 (p0.map Qdo)),(.fn (.func 91) [] [])] [] (.agg [(I r.Lo),(I r.Hi)]) []:=by
  refine Qan func80 rfl 0 (nle rfl) (fun X φ0 w0 hφ0 hd0=>?_)
  unfold Qe7 at h
  refine wxz ?_
  obtain⟨x1,hg2,h⟩:=bno h
  obtain⟨hi3,hj4⟩:=gsm hg2
  obtain⟨x6,hf5,h⟩:=bno h
  obtain⟨x8,hf7,h⟩:=bno h
  refine wxd tbk [(2,rp _ _),(4,rp _ _),(7,rp _ _),(9,rp _ _),(10,rp _ _)] ⟨aiq underlying168 Qot Qdo hi3 hj4,Qav (first:=[]) (cap:=[]) (vs:=[(.dptr (Qky x1) 0)]) (σr:=[]) (σr':=[]) (res':=(I x6)) [] rfl Qyd (Qhh N x1 _ hf5) rfl (Qbs (rnc (.plain _ (NLt.dptr _ _ (Qqs _))) rn0)) Qau Qau (.plain _ nll) rfl rfl rfl,aiq underlying168 Qot Qdo hi3 hj4,Qav (first:=[]) (cap:=[]) (vs:=[(.dptr (Qky x1) 0)]) (σr:=[]) (σr':=[]) (res':=(I x8)) [] rfl Qyd (Qhh N x1 _ hf7) rfl (Qbs (rnc (.plain _ (NLt.dptr _ _ (Qqs _))) rn0)) Qau Qau (.plain _ nll) rfl rfl rfl,Qa5 (vs:=[I x6,I x8]) rfl Zog Zj9 rfl (by rfl) rfl,tv⟩ ?_
  obtain⟨k11,hk_k11,h⟩:=jko h
  refine wjn (τ:=Int×Int) (fun t=>k11 t=some r) (fun ⟨y9,y10⟩=>⟨mk 41 [(4,.ref 0 2 0 0),(5,.ref 1 2 0 0)],[Qvx,(.own 2 [[I y9,I y10]])]⟩) (fun t h=>?_) ?_
  ·subst hk_k11
   obtain⟨y9,y10⟩:=t
   refine wxz<|Qaj ?_
   obtain rfl:=osi h
   exact fend ⟨[(.agg [I y9,I y10])],⟨Qbu (n:=0) (m:=2) (j:=0) (i:=0) (xs:=[[I y9,I y10]]) (by kernel_rfl) (by kernel_rfl) Q6j (by decide) rfl (nle rfl) rfl,tv⟩,rfl⟩ (NLt.agg _ (nlcc nl0))
  ·skip
   obtain⟨hs12,h⟩:=cko h
   refine wx tbk [(1,rp [(.tmp 19,(.dat 1 (p0.map Qdo))),ci 1] (Qy3 p0)),(2,rp _ _)] ⟨Qoe (k:=.i64) (k':=.i64) (lo:=some (.const (.int .i64 1))) (hi:=none) (l:=1) (hh:=((p0.length:Nat):Int)) rfl underlying168 Qot rfl (fun e=>nomatch e) (fun _=>by simp) (Q22 hs12) (Q21 hs12) (Zme Qdo hs12) (Zon Qdo),alq 1 Qdo (p0.drop (1:Int).toNat) underlying168,tv⟩<|Qar ?_
   refine wmr (mto (n:=41) (l':=[(1,(.fn (.func 91) [] [])),(4,.ref 0 2 0 0),(5,.ref 1 2 0 0),(20,(Qy3 p0)),(21,(I (((p0.drop (1:Int).toNat).length:Int)))),(22,I 0)]) (own':=[Qvx,(.own 2 [[I x6,I x8]])]) [(1,(.fn (.func 91) [] [])),(4,.ref 0 2 0 0),(5,.ref 1 2 0 0),(20,(Qy3 p0)),(21,(I (((p0.drop (1:Int).toNat).length:Int)))),(22,I 0)] [0,1] [Qvx,(.own 2 [[I x6,I x8]])] hφ0 (pc (.rn (Qbi rn0 rn0)) (prr (prr (pc (rnd Qfb) (pw (pw pn)))))) (qb (lcc ln) (qb (lcc ln) qn))) ?_
   refine Qbt (τ:=Int×Int×Int) (fun n t=>Qcj N p0 k11 n t.1 t.2.1 t.2.2=some r) (fun ⟨y13,y14,y15⟩=>⟨mk 41 [(1,(.fn (.func 91) [] [])),(4,.ref 0 2 0 0),(5,.ref 1 2 0 0),(20,(Qy3 p0)),(21,(I (((p0.drop (1:Int).toNat).length:Int)))),(22,I y13)],[Qvx,(.own 2 [[I y14,I y15]])]⟩) (fun t h=>by rw[Qcj] at h;cases h) (fun n19 ih t h=>?_) N (0,x6,x8) h
   obtain⟨y13,y14,y15⟩:=t
   rw[Qcj] at h
   skip
   refine wxz<|wsq ?_
   refine bfe h (fun hc20 h=>?_) fun hc20 h=>?_
   ·refine wft hc20<|Qap<|thn<|wsq<|Qar ?_
    obtain⟨x21,hg22,h⟩:=bno h
    obtain⟨hi23,hj24⟩:=gsm hg22
    refine wx tbk [(0,rp _ _)] ⟨aiq underlying168 Qot Qdo hi23 hj24,tv⟩ ?_
    obtain⟨x26,hf25,h⟩:=bno h
    obtain⟨x28,hf27,h⟩:=bno h
    refine wy1 tbk [(4,rp _ _),(5,rp [(.tmp 27,I y14),(.tmp 30,I x26)] (I ((if x26<y14 then x26 else y14)))),(10,rp _ _),(11,rp [(.tmp 33,I y15),(.tmp 36,I x28)] (I ((if x28>y15 then x28 else y15)))),(12,rp _ _)] ⟨Qav (first:=[]) (cap:=[]) (vs:=[(.dptr (Qky x21) 0)]) (σr:=[]) (σr':=[]) (res':=(I x26)) [] rfl Qyd (Qhh N x21 _ hf25) rfl (Qbs (rnc (.plain _ (NLt.dptr _ _ (Qqs _))) rn0)) Qau Qau (.plain _ nll) rfl rfl rfl,Qq9 rfl,Qav (first:=[]) (cap:=[]) (vs:=[(.dptr (Qky x21) 0)]) (σr:=[]) (σr':=[]) (res':=(I x28)) [] rfl Qyd (Qhh N x21 _ hf27) rfl (Qbs (rnc (.plain _ (NLt.dptr _ _ (Qqs _))) rn0)) Qau Qau (.plain _ nll) rfl rfl rfl,Qof rfl,Qa5 (vs:=[(I ((if x26<y14 then x26 else y14))),(I ((if x28>y15 then x28 else y15)))]) rfl Zog Zj9 rfl (by rfl) rfl,tv⟩<|bln<|thn<|wxz1<|thn ?_
    exact arm (mto (n:=41) [(1,(.fn (.func 91) [] [])),(4,.ref 0 2 0 0),(5,.ref 1 2 0 0),(20,(Qy3 p0)),(21,(I (((p0.drop (1:Int).toNat).length:Int)))),(22,(I (w64 (y13+1))))] [0,1] [Qvx,(.own 2 [[(I ((if x26<y14 then x26 else y14))),(I ((if x28>y15 then x28 else y15)))]])] hφ0 (pc (.rn (Qbi rn0 rn0)) (prr (prr (pc (rnd Qfb) (pw (pw pn)))))) (qb (lcc ln) (qb (lcc ln) qn))) (ih (w64 (y13+1),(if x26<y14 then x26 else y14),(if x28>y15 then x28 else y15)) h)
   ·exact wfn hc20<|Qbf<|Qaw<|Qaw<|Qbe rfl<|thn<|⟨(y14,y15),h,(mto (n:=41) [(4,.ref 0 2 0 0),(5,.ref 1 2 0 0)] [0,1] [Qvx,(.own 2 [[I y14,I y15]])] hφ0 (prr (prr pn)) (qb (lcc ln) (qb (lcc ln) qn)))⟩
def Qin (N:Nat) (p0:List GRow) (p1:List Qae) (p2:Nat) (p3:List Int) (p4:List (List Qaa)) (p5:Int) (p6:List Int) (p7:Bool) (p8:List Int):Option (Int×(List Int)×Bool):=
  (Qh1 N (⟨p0,p1⟩:GNet) p2 p8).bind fun x5=>
  (Qex N x5).bind fun x7=>
  bif (!x7) then
   some (p5,p6,p7)
  else
   (Qht N x5 p3 p4).bind fun x10=>
   bif (!x10.2) then
    some (p5,p6,p7)
   else
    (Qix N x10.1).bind fun x13=>
    bif (decide (x13.1≥0)) then
     some (p5,p6,p7)
    else
     (Qe7 N x10.1).bind fun x16=>
     bif (decide (x16.Lo>p5)) then
      chk (decide (p2≤p8.length))<|
      chk (decide ((0+(p8.take p2).length)*8≤140737488355328))<|
      some (x16.Lo,p8.take p2,true)
     else
      some (p5,p6,p7)
def Qnf (p0:List GRow) (p1:List Qae):Slot:=.own 2 [[(.dat 5 (p0.map Qaq)),(.dat 7 (p1.map Qac))]]
def Qne (p2:Nat):Slot:=.own 1 [[(.own 7 1 (0) p2)]]
def Qkr (p3:List Int):Slot:=.own 1 [[(.dat 1 (p3.map Qad))]]
def Qkq (p4:List (List Qaa)):Slot:=.own 1 [[(.dat 1 (p4.map Qak))]]
def Ql7 (p6:List Int):Slot:=.own 1 [[(.dat 1 (p6.map Qad))]]
def Q9e (x5:GNet):AV:=.dat 7 (x5.Elements.map Qac)
def Zjy (x5:GNet):AV:=.agg [(.dat 5 (x5.Table.map Qaq)),(Q9e x5)]
def Zjx (x10:((List Qdn)×Bool)):AV:=.dat 1 (x10.1.map Qdo)
def Qxa (p8:List Int) (p2:Nat):AV:=.dat 1 ((p8.take p2:List Int).map Qad)
theorem Qrv (N:Nat) (p0:List GRow) (p1:List Qae) (p2:Nat) (p3:List Int) (p4:List (List Qaa)) (p5:Int) (p6:List Int) (p7:Bool) (p8:List Int) (r:(Int×(List Int)×Bool)) (h:Qin N p0 p1 p2 p3 p4 p5 p6 p7 p8=some r):Spec prog 90 [(.ref 0 2 (0) 0),(.ref 1 1 (0) 0),(.ref 2 1 (0) 0),(.ref 3 1 (0) 0),(.ref 4 1 (0) 0),(.ref 5 1 (0) 0),(.ref 6 1 (0) 0)] [(Qnf p0 p1),(Qne p2),(Qkr p3),(Qkq p4),(.own 1 [[(I p5)]]),(Ql7 p6),(.own 1 [[(B p7)]]),(.own 1 (p8.map Qad))] (.tup []) [(Qnf p0 p1),(Qne p2),(Qkr p3),(Qkq p4),(.own 1 [[(I r.1)]]),(.own 1 [[(.dat 1 (r.2.1.map Qad))]]),(.own 1 [[(B r.2.2)]]),(.own 1 (p8.map Qad))]:=by
  refine Qan func90 rfl 8 (nle rfl) (fun X φ0 w0 hφ0 hd0=>?_)
  unfold Qin at h
  refine Qbw ?_
  obtain⟨x5,hf4,h⟩:=bno h
  refine wx tbk [(2,⟨_,_,_,_,false⟩),(3,⟨[],[(9,.unused)],.ref 9 2 0 0,[(9,(.own 2 [[(.dat 5 (([]:List GRow).map Qaq)),(.dat 7 (([]:List Qae).map Qac))]]))],false⟩)] ⟨Qav (first:=[]) (cap:=[]) (vs:=[(.agg [(.dat 5 (((⟨p0,p1⟩:GNet).Table:List GRow).map Qaq)),(.dat 7 (((⟨p0,p1⟩:GNet).Elements:List Qae).map Qac))]),(.own 7 1 (0) p2)]) (σr:=[(.own 1 (p8.map Qad))]) (σr':=[(.own 1 (p8.map Qad)),(.own 2 [[(.dat 5 (x5.Table.map Qaq)),(Q9e x5)]])]) (res':=(Zjy x5)) [7,8] rfl Zce (Qqp N (⟨p0,p1⟩:GNet) p2 p8 _ hf4) rfl (Qbs (rnc (.plain _ (NLt.agg _ (nlc (nld Qag _) (nlc (nld Qab _) nl0)))) (rnc (Qc4 rfl) rn0))) (slc (Qa9 Qaf) Qau) (slc (Qa9 Qaf) (slc (Qas (rnc (pld Qag) (rnc (pld Qab) rn0))) Qau)) (.plain _ (NLt.agg _ (nlc (nld Qag _) (nlc (nld Qab _) nl0)))) rfl rfl rfl,Qpz (SImp.box (l:=[nilS,nilS]) ⟨Less.nil,Less.nil,tv⟩) (Qnb rfl tz42 rfl),tv⟩<|wsq ?_
  obtain⟨x7,hf6,h⟩:=bno h
  refine wx tbk [(1,rp _ _)] ⟨apv Quy (Qgv N x5 _ hf6) (nlc (NLt.agg _ (nlc (nld Qag _) (nlc (nld Qab _) nl0))) nl0) nll,tv⟩ ?_
  refine bfe h (fun hc8 h=>?_) fun hc8 h=>?_
  ·refine wft hc8<|wmr (mto (n:=44) (l':=[]) (own':=[(Qnf p0 p1),(Qne p2),(Qkr p3),(Qkq p4),(.own 1 [[I p5]]),(Ql7 p6),(.own 1 [[B p7]]),(.own 1 (p8.map Qad))]) [] [0,1,2,3,4,5,6,7] [(Qnf p0 p1),(Qne p2),(Qkr p3),(Qkq p4),(.own 1 [[I p5]]),(Ql7 p6),(.own 1 [[B p7]]),(.own 1 (p8.map Qad))] hφ0 pn (qb (lc (rnd Qag) (lc (rnd Qab) ln)) (qb (lc (.rn (Qa2 rfl)) ln) (qb (lc (rnd Qaf) ln) (qb (lc (rnd Qai) ln) (qb (lc rwl ln) (qb (lc (rnd Qaf) ln) (qb (lc rwl ln) (qc (spr Qaf) qn)))))))))<|Qaj<|Qal ?_
   obtain rfl:=osi h
   exact⟨_,Mor.rfl,Qc1 (vs:=[]) tv rfl (NLt.tup _ nl0) (by kernel_rfl) (Qao (Qax (nlc (NLt.of0 (nld Qag _)) (nlc (NLt.of0 (nld Qab _)) nl0))) (Qao (Qax (nlc (NLt.own _ _ _ _ (by decide)) nl0)) (Qao (Qax (nlc (NLt.of0 (nld Qaf _)) nl0)) (Qao (Qax (nlc (NLt.of0 (nld Qai _)) nl0)) (Qao (Qax (nlc (NLt.of0 nll) nl0)) (Qao (Qax (nlc (NLt.of0 (nld Qaf _)) nl0)) (Qao (Qax (nlc (NLt.of0 nll) nl0)) (Qao (Qb0 Qaf _) Qbq))))))))⟩
  ·refine wfn hc8<|Qap<|thn ?_
   obtain⟨x10,hf9,h⟩:=bno h
   refine wx tbk [(3,rp _ _)] ⟨apv Zca (Qmm N x5 p3 p4 _ hf9) (nlc (NLt.agg _ (nlc (nld Qag _) (nlc (nld Qab _) nl0))) (nlc (nld Qaf _) (nlc (nld Qai _) nl0))) (NLt.tup _ (nlc (nld Qfb _) (nlc nll nl0))),tv⟩<|wsq<|wxz ?_
   refine bfe h (fun hc11 h=>?_) fun hc11 h=>?_
   ·refine wft hc11<|wmr (mto (n:=44) (l':=[]) (own':=[(Qnf p0 p1),(Qne p2),(Qkr p3),(Qkq p4),(.own 1 [[I p5]]),(Ql7 p6),(.own 1 [[B p7]]),(.own 1 (p8.map Qad))]) [] [0,1,2,3,4,5,6,7] [(Qnf p0 p1),(Qne p2),(Qkr p3),(Qkq p4),(.own 1 [[I p5]]),(Ql7 p6),(.own 1 [[B p7]]),(.own 1 (p8.map Qad))] hφ0 pn (qb (lc (rnd Qag) (lc (rnd Qab) ln)) (qb (lc (.rn (Qa2 rfl)) ln) (qb (lc (rnd Qaf) ln) (qb (lc (rnd Qai) ln) (qb (lc rwl ln) (qb (lc (rnd Qaf) ln) (qb (lc rwl ln) (qc (spr Qaf) qn)))))))))<|Qaj<|Qal ?_
    obtain rfl:=osi h
    exact⟨_,Mor.rfl,Qc1 (vs:=[]) tv rfl (NLt.tup _ nl0) (by kernel_rfl) (Qao (Qax (nlc (NLt.of0 (nld Qag _)) (nlc (NLt.of0 (nld Qab _)) nl0))) (Qao (Qax (nlc (NLt.own _ _ _ _ (by decide)) nl0)) (Qao (Qax (nlc (NLt.of0 (nld Qaf _)) nl0)) (Qao (Qax (nlc (NLt.of0 (nld Qai _)) nl0)) (Qao (Qax (nlc (NLt.of0 nll) nl0)) (Qao (Qax (nlc (NLt.of0 (nld Qaf _)) nl0)) (Qao (Qax (nlc (NLt.of0 nll) nl0)) (Qao (Qb0 Qaf _) Qbq))))))))⟩
   ·refine wfn hc11<|Qap<|thn<|wsq ?_
    obtain⟨x13,hf12,h⟩:=bno h
    refine wx tbk [(1,rp _ _)] ⟨apv Zb9 (Qn5 N x10.1 _ hf12) (nlc (nld Qfb _) nl0) (NLt.tup _ (nlcc nl0)),tv⟩<|wxz ?_
    refine bfe h (fun hc14 h=>?_) fun hc14 h=>?_
    ·refine wft hc14<|wmr (mto (n:=44) (l':=[]) (own':=[(Qnf p0 p1),(Qne p2),(Qkr p3),(Qkq p4),(.own 1 [[I p5]]),(Ql7 p6),(.own 1 [[B p7]]),(.own 1 (p8.map Qad))]) [] [0,1,2,3,4,5,6,7] [(Qnf p0 p1),(Qne p2),(Qkr p3),(Qkq p4),(.own 1 [[I p5]]),(Ql7 p6),(.own 1 [[B p7]]),(.own 1 (p8.map Qad))] hφ0 pn (qb (lc (rnd Qag) (lc (rnd Qab) ln)) (qb (lc (.rn (Qa2 rfl)) ln) (qb (lc (rnd Qaf) ln) (qb (lc (rnd Qai) ln) (qb (lc rwl ln) (qb (lc (rnd Qaf) ln) (qb (lc rwl ln) (qc (spr Qaf) qn)))))))))<|Qaj<|Qal ?_
     obtain rfl:=osi h
     exact⟨_,Mor.rfl,Qc1 (vs:=[]) tv rfl (NLt.tup _ nl0) (by kernel_rfl) (Qao (Qax (nlc (NLt.of0 (nld Qag _)) (nlc (NLt.of0 (nld Qab _)) nl0))) (Qao (Qax (nlc (NLt.own _ _ _ _ (by decide)) nl0)) (Qao (Qax (nlc (NLt.of0 (nld Qaf _)) nl0)) (Qao (Qax (nlc (NLt.of0 (nld Qai _)) nl0)) (Qao (Qax (nlc (NLt.of0 nll) nl0)) (Qao (Qax (nlc (NLt.of0 (nld Qaf _)) nl0)) (Qao (Qax (nlc (NLt.of0 nll) nl0)) (Qao (Qb0 Qaf _) Qbq))))))))⟩
    ·refine wfn hc14<|Qap<|thn ?_
     obtain⟨x16,hf15,h⟩:=bno h
     refine wx tbk [(1,rp _ _)] ⟨Qav (first:=[]) (cap:=[]) (vs:=[(Zjx x10),(.fn (.func 91) [] [])]) (σr:=[]) (σr':=[]) (res':=(.agg [I x16.Lo,I x16.Hi])) [] rfl Zlf (Qma N x10.1 _ hf15) rfl (Qbs (rnc (pld Qfb) (rnc (.plain _ (NLt.fn _ _ _ nl0 nl0)) rn0))) Qau Qau (.plain _ (NLt.agg _ (nlcc nl0))) rfl rfl rfl,tv⟩<|wxz ?_
     refine bfe h (fun hc17 h=>?_) fun hc17 h=>?_
     ·refine wft hc17 ?_
      obtain⟨hz18,h⟩:=cko h
      obtain⟨ha19,h⟩:=cko h
      refine wx1 tbk [(1,⟨[((.const (.slice none 0 0)),nilS),(.tmp 41,(.own 7 1 (0) p2))],[(7,(.own 1 (p8.map Qad))),(10,.unused)],(.acc 10 3 1 ((p8.take p2:List Int).map Qad)),[(10,.tok)],false⟩),(3,⟨[(.tmp 5,.ref 5 1 0 0),(.tmp 42,(.acc 10 3 1 ((p8.take p2:List Int).map Qad)))],[(5,(Ql7 p6))],.any,[(5,(.own 1 [[(Qxa p8 p2)]]))],false⟩)] ⟨Qjp (rd':=[((.const (.slice none 0 0)),nilS),(.tmp 41,(Qxa p8 p2))]) [(7,1,p8.map Qad)] ⟨rfl,.same _,rfl,(Qyi 0 rfl hz18),tv⟩ (by rfl) (.acc _ _ _ _ (nin rfl) (by simp) (Q4w Qul _)) (Q4g .tok Qtu) (Qek rfl underlying27 te3 (Base.nil) rfl rfl (Qji Qad Qh3 _) (Qyt Qad ha19) (Qys Qad ha19 (by decide)) (Zhc Qad) rfl rfl),awk (rd':=[(.tmp 5,.ref 5 1 0 0),(.tmp 42,(Qxa p8 p2))]) ⟨rfl,lrf,rfl,Less.acc,tv⟩ (ast rfl ti27 (by rfl) rfl (nle rfl) rfl),tv⟩ ?_
      obtain rfl:=osi h
      exact⟨_,(mto (n:=44) (l':=[]) (own':=[(Qnf p0 p1),(Qne p2),(Qkr p3),(Qkq p4),(.own 1 [[I x16.Lo]]),(.own 1 [[(.dat 1 (((p8.take p2):List Int).map Qad))]]),(.own 1 [[B true]]),(.own 1 (p8.map Qad))]) [] [0,1,2,3,4,5,6,7] [(Qnf p0 p1),(Qne p2),(Qkr p3),(Qkq p4),(.own 1 [[I x16.Lo]]),(.own 1 [[(Qxa p8 p2)]]),(.own 1 [[B true]]),(.own 1 (p8.map Qad))] hφ0 pn (qb (lc (rnd Qag) (lc (rnd Qab) ln)) (qb (lc (.rn (Qa2 rfl)) ln) (qb (lc (rnd Qaf) ln) (qb (lc (rnd Qai) ln) (qb (lc rwl ln) (qb (lc (rnd Qaf) ln) (qb (lc rwl ln) (qc (spr Qaf) qn))))))))),Qc1 (vs:=[]) tv rfl (NLt.tup _ nl0) (by kernel_rfl) (Qao (Qax (nlc (NLt.of0 (nld Qag _)) (nlc (NLt.of0 (nld Qab _)) nl0))) (Qao (Qax (nlc (NLt.own _ _ _ _ (by decide)) nl0)) (Qao (Qax (nlc (NLt.of0 (nld Qaf _)) nl0)) (Qao (Qax (nlc (NLt.of0 (nld Qai _)) nl0)) (Qao (Qax (nlc (NLt.of0 nll) nl0)) (Qao (Qax (nlc (NLt.of0 (nld Qaf _)) nl0)) (Qao (Qax (nlc (NLt.of0 nll) nl0)) (Qao (Qb0 Qaf _) Qbq))))))))⟩
     ·refine wfn hc17<|Qap ?_
      obtain rfl:=osi h
      exact⟨_,(mto (n:=44) (l':=[]) (own':=[(Qnf p0 p1),(Qne p2),(Qkr p3),(Qkq p4),(.own 1 [[I p5]]),(Ql7 p6),(.own 1 [[B p7]]),(.own 1 (p8.map Qad))]) [] [0,1,2,3,4,5,6,7] [(Qnf p0 p1),(Qne p2),(Qkr p3),(Qkq p4),(.own 1 [[I p5]]),(Ql7 p6),(.own 1 [[B p7]]),(.own 1 (p8.map Qad))] hφ0 pn (qb (lc (rnd Qag) (lc (rnd Qab) ln)) (qb (lc (.rn (Qa2 rfl)) ln) (qb (lc (rnd Qaf) ln) (qb (lc (rnd Qai) ln) (qb (lc rwl ln) (qb (lc (rnd Qaf) ln) (qb (lc rwl ln) (qc (spr Qaf) qn))))))))),Qc1 (vs:=[]) tv rfl (NLt.tup _ nl0) (by kernel_rfl) (Qao (Qax (nlc (NLt.of0 (nld Qag _)) (nlc (NLt.of0 (nld Qab _)) nl0))) (Qao (Qax (nlc (NLt.own _ _ _ _ (by decide)) nl0)) (Qao (Qax (nlc (NLt.of0 (nld Qaf _)) nl0)) (Qao (Qax (nlc (NLt.of0 (nld Qai _)) nl0)) (Qao (Qax (nlc (NLt.of0 nll) nl0)) (Qao (Qax (nlc (NLt.of0 (nld Qaf _)) nl0)) (Qao (Qax (nlc (NLt.of0 nll) nl0)) (Qao (Qb0 Qaf _) Qbq))))))))⟩
def Qdj (N:Nat) (p0:Int) (rec_:(Int→Int→Nat→(List GRow)→(List Qae)→(List Int)→(List (List Qaa))→Int→(List Int)→Bool→(List Int)→Option (Int×(List Int)×Bool×(List Int)))) (p1:Int) (p2:Nat) (p3:List GRow) (p4:List Qae) (p5:List Int) (p6:List (List Qaa)):Nat→Int→(List Int)→Bool→(List Int)→Option (Int×(List Int)×Bool×(List Int))
  |0,_,_,_,_=>none
  |n23+1,y15,y16,y17,y18=>
    chk (decide (0≤p0)&&decide (p0.toNat<p2))<|
    (y18[p0.toNat]?).bind fun x25=>
    bif (decide (x25<(p3.length:Int))) then
     (rec_ (w64 (p0+1)) p1 p2 p3 p4 p5 p6 y15 y16 y17 y18).bind fun x29=>
     chk (decide (0≤p0)&&decide (p0.toNat<p2))<|
     (x29.2.2.2[p0.toNat]?).bind fun x31=>
     chk (decide (0≤p0)&&decide (p0.toNat<p2))<|
     (x29.2.2.2[p0.toNat]?).bind fun _=>
     Qdj N p0 rec_ p1 p2 p3 p4 p5 p6 n23 x29.1 x29.2.1 x29.2.2.1 (x29.2.2.2.set p0.toNat (w64 (x31+1)))
    else
     some (y15,y16,y17,y18)
def Qgi (N:Nat) (rec_:Int→Int→Nat→(List GRow)→(List Qae)→(List Int)→(List (List Qaa))→Int→(List Int)→Bool→(List Int)→Option (Int×(List Int)×Bool×(List Int))) (p0 p1:Int) (p2:Nat) (p3:List GRow) (p4:List Qae) (p5:List Int) (p6:List (List Qaa)) (p7:Int) (p8:List Int) (p9:Bool) (p10:List Int):Option (Int×(List Int)×Bool×(List Int)):=
  bif (p0==p1) then
   (Qin N p3 p4 p2 p5 p6 p7 p8 p9 p10).bind fun x11=>
   some (x11.1,x11.2.1,x11.2.2,p10)
  else
   chk (decide (0≤p0)&&decide (p0.toNat<p2))<|
   (p10[p0.toNat]?).bind fun _=>
   Qdj N p0 rec_ p1 p2 p3 p4 p5 p6 N p7 p8 p9 (p10.set p0.toNat 0)
def Qff:Nat→Int→Int→Nat→(List GRow)→(List Qae)→(List Int)→(List (List Qaa))→Int→(List Int)→Bool→(List Int)→Option (Int×(List Int)×Bool×(List Int))
  |0,_,_,_,_,_,_,_,_,_,_,_=>none
  |N+1,p0,p1,p2,p3,p4,p5,p6,p7,p8,p9,p10=>Qgi N (Qff N) p0 p1 p2 p3 p4 p5 p6 p7 p8 p9 p10
def Qng:AV:=.fn (.func 90) [] [(.ref 3 2 (0) 0),(.ref 2 1 (0) 0),(.ref 5 1 (0) 0),(.ref 6 1 (0) 0),(.ref 7 1 (0) 0),(.ref 8 1 (0) 0),(.ref 9 1 (0) 0)]
def Qly (p2:Nat):Slot:=.own 1 [[(.own 10 1 (0) p2)]]
def Qlz (p3:List GRow) (p4:List Qae):Slot:=.own 2 [[(.dat 5 (p3.map Qaq)),(.dat 7 (p4.map Qac))]]
def Qks:AV:=.fn (.func 92) [] [(.ref 0 1 (0) 0),(.ref 1 1 (0) 0),(.ref 2 1 (0) 0),(.ref 3 2 (0) 0),(.ref 4 1 (0) 0)]
def Qlx (p5:List Int):Slot:=.own 1 [[(.dat 1 (p5.map Qad))]]
def Qlw (p6:List (List Qaa)):AV:=.dat 1 (p6.map Qak)
def Q3s (p8:List Int):Slot:=.own 1 [[(.dat 1 (p8.map Qad))]]
def Qxb (y16:List Int):Slot:=.own 1 [[(.dat 1 (y16.map Qad))]]
def Qte (x29:(Int×(List Int)×Bool×(List Int))):Slot:=.own 1 (x29.2.2.2.map Qad)
theorem Qru:∀(N:Nat) (p0 p1:Int) (p2:Nat) (p3:List GRow) (p4:List Qae) (p5:List Int) (p6:List (List Qaa)) (p7:Int) (p8:List Int) (p9:Bool) (p10:List Int) (r:(Int×(List Int)×Bool×(List Int))) (_:Qff N p0 p1 p2 p3 p4 p5 p6 p7 p8 p9 p10=some r),Spec prog 92 [(I p0),(.ref 0 1 (0) 0),(.ref 1 1 (0) 0),(.ref 2 1 (0) 0),(.ref 3 2 (0) 0),(.ref 4 1 (0) 0)] [(.own 1 [[(I p1)]]),(.own 1 [[Qng]]),(Qly p2),(Qlz p3 p4),(.own 1 [[Qks]]),(Qlx p5),(.own 1 [[(Qlw p6)]]),(.own 1 [[(I p7)]]),(Q3s p8),(.own 1 [[(B p9)]]),(.own 1 (p10.map Qad))] (.tup []) [(.own 1 [[(I p1)]]),(.own 1 [[Qng]]),(Qly p2),(Qlz p3 p4),(.own 1 [[Qks]]),(Qlx p5),(.own 1 [[(Qlw p6)]]),(.own 1 [[(I r.1)]]),(.own 1 [[(.dat 1 (r.2.1.map Qad))]]),(.own 1 [[(B r.2.2.1)]]),(.own 1 (r.2.2.2.map Qad))]:=by
  intro N
  induction N with
  |zero=>intro p0 p1 p2 p3 p4 p5 p6 p7 p8 p9 p10 r h;exact nomatch (show(none:Option (Int×(List Int)×Bool×(List Int)))=some r from h)
  |succ N ihX=>
  intro p0 p1 p2 p3 p4 p5 p6 p7 p8 p9 p10 r h
  replace h:Qgi N (Qff N) p0 p1 p2 p3 p4 p5 p6 p7 p8 p9 p10=some r:=h
  refine Qan func92 rfl 11 (nle rfl) (fun X φ0 w0 hφ0 hd0=>?_)
  unfold Qgi at h
  refine Qbw<|wsq<|wxz ?_
  refine bfe h (fun hc9 h=>?_) fun hc9 h=>?_
  ·refine wft hc9 ?_
   obtain⟨x11,hf10,h⟩:=bno h
   refine wx tbk [(1,⟨_,_,_,_,false⟩)] ⟨Qav (first:=[]) (cap:=[.ref 3 2 0 0,.ref 2 1 0 0,.ref 5 1 0 0,.ref 6 1 0 0,.ref 7 1 0 0,.ref 8 1 0 0,.ref 9 1 0 0]) (vs:=[]) (σr:=[(Qlz p3 p4),(Qly p2),(Qlx p5),(.own 1 [[(Qlw p6)]]),(.own 1 [[I p7]]),(Q3s p8),(.own 1 [[B p9]]),(.own 1 (p10.map Qad))]) (σr':=[(Qlz p3 p4),(Qly p2),(Qlx p5),(.own 1 [[(Qlw p6)]]),(.own 1 [[I x11.1]]),(.own 1 [[(.dat 1 (x11.2.1.map Qad))]]),(.own 1 [[B x11.2.2]]),(.own 1 (p10.map Qad))]) (res':=(.tup [])) [3,2,5,6,7,8,9,10] rfl Zlc (Qrv N p3 p4 p2 p5 p6 p7 p8 p9 p10 _ hf10) rfl (Qbs (rnc (Qa1 rfl) (rnc (Qa1 rfl) (rnc (Qa1 rfl) (rnc (Qa1 rfl) (rnc (Qa1 rfl) (rnc (Qa1 rfl) (rnc (Qa1 rfl) rn0)))))))) (slc (Qas (rnc (pld Qag) (rnc (pld Qab) rn0))) (slc (Qas (rnc (Qc4 rfl) rn0)) (slc (Qas (rnc (pld Qaf) rn0)) (slc (Qas (rnc (pld Qai) rn0)) (slc (Qas (rnc (.plain _ nll) rn0)) (slc (Qas (rnc (pld Qaf) rn0)) (slc (Qas (rnc (.plain _ nll) rn0)) (slc (Qa9 Qaf) Qau)))))))) (slc (Qas (rnc (pld Qag) (rnc (pld Qab) rn0))) (slc (Qas (rnc (Qc0 rfl) rn0)) (slc (Qas (rnc (pld Qaf) rn0)) (slc (Qas (rnc (pld Qai) rn0)) (slc (Qas (rnc (.plain _ nll) rn0)) (slc (Qas (rnc (pld Qaf) rn0)) (slc (Qas (rnc (.plain _ nll) rn0)) (slc (Qa9 Qaf) Qau)))))))) (.plain _ (NLt.tup _ nl0)) rfl rfl rfl,tv⟩ ?_
   refine wmr (mto (n:=33) (l':=[]) (own':=[(.own 1 [[I p1]]),(.own 1 [[Qng]]),(Qly p2),(Qlz p3 p4),(.own 1 [[Qks]]),(Qlx p5),(.own 1 [[(Qlw p6)]]),(.own 1 [[I x11.1]]),(.own 1 [[(.dat 1 (x11.2.1.map Qad))]]),(.own 1 [[B x11.2.2]]),(.own 1 (p10.map Qad))]) [] [0,1,2,3,4,5,6,7,8,9,10] [(.own 1 [[I p1]]),(.own 1 [[Qng]]),(Qly p2),(Qlz p3 p4),(.own 1 [[Qks]]),(Qlx p5),(.own 1 [[(Qlw p6)]]),(.own 1 [[I x11.1]]),(.own 1 [[(.dat 1 (x11.2.1.map Qad))]]),(.own 1 [[B x11.2.2]]),(.own 1 (p10.map Qad))] hφ0 pn (qb (lc rwl ln) (qb (lc (.rn (Qbi rn0 (rnc (rqr rfl) (rnc (rqr rfl) (rnc (rqr rfl) (rnc (rqr rfl) (rnc (rqr rfl) (rnc (rqr rfl) (rnc (rqr rfl) rn0))))))))) ln) (qb (lc (.rn (Qa2 rfl)) ln) (qb (lc (rnd Qag) (lc (rnd Qab) ln)) (qb (lc (.rn (Qbi rn0 (rnc (rqr rfl) (rnc (rqr rfl) (rnc (rqr rfl) (rnc (rqr rfl) (rnc (rqr rfl) rn0))))))) ln) (qb (lc (rnd Qaf) ln) (qb (lc (rnd Qai) ln) (qb (lc rwl ln) (qb (lc (rnd Qaf) ln) (qb (lc rwl ln) (qc (spr Qaf) qn))))))))))))<|Qaj<|Qal ?_
   obtain rfl:=osi h
   exact⟨_,Mor.rfl,Qc1 (vs:=[]) tv rfl (NLt.tup _ nl0) (by kernel_rfl) (Qao (Qax (nlc (NLt.of0 nll) nl0)) (Qao (Qax (nlc (NLt.fn _ _ _ nl0 (nlc (NLt.ref _ _ _ _ (by decide)) (nlc (NLt.ref _ _ _ _ (by decide)) (nlc (NLt.ref _ _ _ _ (by decide)) (nlc (NLt.ref _ _ _ _ (by decide)) (nlc (NLt.ref _ _ _ _ (by decide)) (nlc (NLt.ref _ _ _ _ (by decide)) (nlc (NLt.ref _ _ _ _ (by decide)) nl0)))))))) nl0)) (Qao (Qax (nlc (NLt.own _ _ _ _ (by decide)) nl0)) (Qao (Qax (nlc (NLt.of0 (nld Qag _)) (nlc (NLt.of0 (nld Qab _)) nl0))) (Qao (Qax (nlc (NLt.fn _ _ _ nl0 (nlc (NLt.ref _ _ _ _ (by decide)) (nlc (NLt.ref _ _ _ _ (by decide)) (nlc (NLt.ref _ _ _ _ (by decide)) (nlc (NLt.ref _ _ _ _ (by decide)) (nlc (NLt.ref _ _ _ _ (by decide)) nl0)))))) nl0)) (Qao (Qax (nlc (NLt.of0 (nld Qaf _)) nl0)) (Qao (Qax (nlc (NLt.of0 (nld Qai _)) nl0)) (Qao (Qax (nlc (NLt.of0 nll) nl0)) (Qao (Qax (nlc (NLt.of0 (nld Qaf _)) nl0)) (Qao (Qax (nlc (NLt.of0 nll) nl0)) (Qao (Qb0 Qaf _) Qbq)))))))))))⟩
  ·refine wfn hc9<|Qap<|thn ?_
   obtain⟨hi12,h⟩:=cko h
   obtain⟨hi12a,hi12b⟩:=Qdv hi12
   obtain⟨x13,hg14,h⟩:=bno h
   refine wx tbk [(2,rb [(.tmp 12,(.own 10 1 (0) p2)),(.tmp 13,I p0)] [(10,(.own 1 (p10.map Qad)))] (.ref 10 1 p0.toNat 0)),(3,⟨[(.tmp 14,(.ref 10 1 p0.toNat 0)),ci 0],[(10,(.own 1 (p10.map Qad)))],.any,[(10,(.own 1 ((p10.set p0.toNat 0:List Int).map Qad)))],false⟩)] ⟨aio rfl underlying27 ti3 (odt hi12a) (odt hi12b) (Nat.zero_add _),ast rfl ti3 (by rfl) (mgt Qad hg14) (nle rfl) (Qf0 Qad rfl),tv⟩<|Qar ?_
   refine wmr (mto (n:=33) (l':=[(0,I p0),(3,.ref 2 1 0 0),(4,.ref 3 2 0 0),(5,.ref 4 1 0 0)]) (own':=[(.own 1 [[I p1]]),(.own 1 [[Qng]]),(Qly p2),(Qlz p3 p4),(.own 1 [[Qks]]),(Qlx p5),(.own 1 [[(Qlw p6)]]),(.own 1 [[I p7]]),(Q3s p8),(.own 1 [[B p9]]),(.own 1 (((p10.set p0.toNat 0):List Int).map Qad))]) [(0,I p0),(3,.ref 2 1 0 0),(4,.ref 3 2 0 0),(5,.ref 4 1 0 0)] [0,1,2,3,4,5,6,7,8,9,10] [(.own 1 [[I p1]]),(.own 1 [[Qng]]),(Qly p2),(Qlz p3 p4),(.own 1 [[Qks]]),(Qlx p5),(.own 1 [[(Qlw p6)]]),(.own 1 [[I p7]]),(Q3s p8),(.own 1 [[B p9]]),(.own 1 ((p10.set p0.toNat 0:List Int).map Qad))] hφ0 (pw (prr (prr (prr pn)))) (qb (lc rwl ln) (qb (lc (.rn (Qbi rn0 (rnc (rqr rfl) (rnc (rqr rfl) (rnc (rqr rfl) (rnc (rqr rfl) (rnc (rqr rfl) (rnc (rqr rfl) (rnc (rqr rfl) rn0))))))))) ln) (qb (lc (.rn (Qa2 rfl)) ln) (qb (lc (rnd Qag) (lc (rnd Qab) ln)) (qb (lc (.rn (Qbi rn0 (rnc (rqr rfl) (rnc (rqr rfl) (rnc (rqr rfl) (rnc (rqr rfl) (rnc (rqr rfl) rn0))))))) ln) (qb (lc (rnd Qaf) ln) (qb (lc (rnd Qai) ln) (qb (lc rwl ln) (qb (lc (rnd Qaf) ln) (qb (lc rwl ln) (qc (spr Qaf) qn)))))))))))) ?_
   refine Qbt (τ:=Int×(List Int)×Bool×(List Int)) (fun n t=>Qdj N p0 (Qff N) p1 p2 p3 p4 p5 p6 n t.1 t.2.1 t.2.2.1 t.2.2.2=some r) (fun ⟨y15,y16,y17,y18⟩=>⟨mk 33 [(0,I p0),(3,.ref 2 1 0 0),(4,.ref 3 2 0 0),(5,.ref 4 1 0 0)],[(.own 1 [[I p1]]),(.own 1 [[Qng]]),(Qly p2),(Qlz p3 p4),(.own 1 [[Qks]]),(Qlx p5),(.own 1 [[(Qlw p6)]]),(.own 1 [[I y15]]),(Qxb y16),(.own 1 [[B y17]]),(.own 1 (y18.map Qad))]⟩) (fun t h=>by rw[Qdj] at h;cases h) (fun n23 ih t h=>?_) N (p7,p8,p9,p10.set p0.toNat 0) h
   obtain⟨y15,y16,y17,y18⟩:=t
   rw[Qdj] at h
   skip
   refine wsq ?_
   obtain⟨hi24,h⟩:=cko h
   obtain⟨hi24a,hi24b⟩:=Qdv hi24
   obtain⟨x25,hg26,h⟩:=bno h
   refine wxd tbk [(2,rb [(.tmp 15,(.own 10 1 (0) p2)),(.tmp 16,I p0)] [(10,(.own 1 (y18.map Qad)))] (.ref 10 1 p0.toNat 0)),(3,rb [(.tmp 17,(.ref 10 1 p0.toNat 0))] [(10,(.own 1 (y18.map Qad)))] (I x25)),(6,rp _ _)] ⟨aio rfl underlying27 ti3 (odt hi24a) (odt hi24b) (Nat.zero_add _),ald rfl ti3 (by decide) (mgt Qad hg26) (nle rfl) rfl,alq 5 Qaq p3 underlying39,tv⟩ ?_
   refine bfe h (fun hc27 h=>?_) fun hc27 h=>?_
   ·refine wft hc27<|Qap<|thn<|wsq<|Qar ?_
    obtain⟨x29,hf28,h⟩:=bno h
    refine wx1 tbk [(3,⟨_,_,_,_,false⟩)] ⟨Qav (first:=[]) (cap:=[.ref 0 1 0 0,.ref 1 1 0 0,.ref 2 1 0 0,.ref 3 2 0 0,.ref 4 1 0 0]) (vs:=[(I (w64 (p0+1)))]) (σr:=[(.own 1 [[I p1]]),(.own 1 [[Qng]]),(Qly p2),(Qlz p3 p4),(.own 1 [[Qks]]),(Qlx p5),(.own 1 [[(Qlw p6)]]),(.own 1 [[I y15]]),(Qxb y16),(.own 1 [[B y17]]),(.own 1 (y18.map Qad))]) (σr':=[(.own 1 [[I p1]]),(.own 1 [[Qng]]),(Qly p2),(Qlz p3 p4),(.own 1 [[Qks]]),(Qlx p5),(.own 1 [[(Qlw p6)]]),(.own 1 [[I x29.1]]),(.own 1 [[(.dat 1 (x29.2.1.map Qad))]]),(.own 1 [[B x29.2.2.1]]),(Qte x29)]) (res':=(.tup [])) [0,1,2,3,4,5,6,7,8,9,10] rfl Zb8 (ihX (w64 (p0+1)) p1 p2 p3 p4 p5 p6 y15 y16 y17 y18 _ hf28) rfl (Qbs (rnc (.plain _ nll) (rnc (Qa1 rfl) (rnc (Qa1 rfl) (rnc (Qa1 rfl) (rnc (Qa1 rfl) (rnc (Qa1 rfl) rn0))))))) (slc (Qas (rnc (.plain _ nll) rn0)) (slc (Qas (rnc (Qbi rn0 (rnc (Qa1 rfl) (rnc (Qa1 rfl) (rnc (Qa1 rfl) (rnc (Qa1 rfl) (rnc (Qa1 rfl) (rnc (Qa1 rfl) (rnc (Qa1 rfl) rn0)))))))) rn0)) (slc (Qas (rnc (Qc4 rfl) rn0)) (slc (Qas (rnc (pld Qag) (rnc (pld Qab) rn0))) (slc (Qas (rnc (Qbi rn0 (rnc (Qa1 rfl) (rnc (Qa1 rfl) (rnc (Qa1 rfl) (rnc (Qa1 rfl) (rnc (Qa1 rfl) rn0)))))) rn0)) (slc (Qas (rnc (pld Qaf) rn0)) (slc (Qas (rnc (pld Qai) rn0)) (slc (Qas (rnc (.plain _ nll) rn0)) (slc (Qas (rnc (pld Qaf) rn0)) (slc (Qas (rnc (.plain _ nll) rn0)) (slc (Qa9 Qaf) Qau))))))))))) (slc (Qas (rnc (.plain _ nll) rn0)) (slc (Qas (rnc (Qbi rn0 (rnc (Qbb rfl) (rnc (Qbb rfl) (rnc (Qbb rfl) (rnc (Qbb rfl) (rnc (Qbb rfl) (rnc (Qbb rfl) (rnc (Qbb rfl) rn0)))))))) rn0)) (slc (Qas (rnc (Qc0 rfl) rn0)) (slc (Qas (rnc (pld Qag) (rnc (pld Qab) rn0))) (slc (Qas (rnc (Qbi rn0 (rnc (Qbb rfl) (rnc (Qbb rfl) (rnc (Qbb rfl) (rnc (Qbb rfl) (rnc (Qbb rfl) rn0)))))) rn0)) (slc (Qas (rnc (pld Qaf) rn0)) (slc (Qas (rnc (pld Qai) rn0)) (slc (Qas (rnc (.plain _ nll) rn0)) (slc (Qas (rnc (pld Qaf) rn0)) (slc (Qas (rnc (.plain _ nll) rn0)) (slc (Qa9 Qaf) Qau))))))))))) (.plain _ (NLt.tup _ nl0)) rfl rfl rfl,tv⟩<|bln<|thn ?_
    obtain⟨hi30,h⟩:=cko h
    obtain⟨hi30a,hi30b⟩:=Qdv hi30
    obtain⟨x31,hg32,h⟩:=bno h
    obtain⟨hi33,h⟩:=cko h
    obtain⟨hi33a,hi33b⟩:=Qdv hi33
    obtain⟨x34,hg35,h⟩:=bno h
    refine wx1 tbk [(2,rb [(.tmp 23,(.own 10 1 (0) p2)),(.tmp 24,I p0)] [(10,(Qte x29))] (.ref 10 1 p0.toNat 0)),(3,rb [(.tmp 25,(.ref 10 1 p0.toNat 0))] [(10,(Qte x29))] (I x31)),(5,rb [(.tmp 23,(.own 10 1 (0) p2)),(.tmp 24,I p0)] [(10,(Qte x29))] (.ref 10 1 p0.toNat 0)),(6,⟨[(.tmp 28,(.ref 10 1 p0.toNat 0)),(.tmp 27,(I (w64 (x31+1))))],[(10,(Qte x29))],.any,[(10,(.own 1 ((x29.2.2.2.set p0.toNat (w64 (x31+1)):List Int).map Qad)))],false⟩)] ⟨aio rfl underlying27 ti3 (odt hi30a) (odt hi30b) (Nat.zero_add _),ald rfl ti3 (by decide) (mgt Qad hg32) (nle rfl) rfl,aio rfl underlying27 ti3 (odt hi33a) (odt hi33b) (Nat.zero_add _),ast rfl ti3 (by rfl) (mgt Qad hg35) (nle rfl) (Qf0 Qad rfl),tv⟩<|thn ?_
    exact arm (mto (n:=33) [(0,I p0),(3,.ref 2 1 0 0),(4,.ref 3 2 0 0),(5,.ref 4 1 0 0)] [0,1,2,3,4,5,6,7,8,9,10] [(.own 1 [[I p1]]),(.own 1 [[Qng]]),(Qly p2),(Qlz p3 p4),(.own 1 [[Qks]]),(Qlx p5),(.own 1 [[(Qlw p6)]]),(.own 1 [[I x29.1]]),(.own 1 [[(.dat 1 (x29.2.1.map Qad))]]),(.own 1 [[B x29.2.2.1]]),(.own 1 ((x29.2.2.2.set p0.toNat (w64 (x31+1)):List Int).map Qad))] hφ0 (pw (prr (prr (prr pn)))) (qb (lc rwl ln) (qb (lc (.rn (Qbi rn0 (rnc (rqr rfl) (rnc (rqr rfl) (rnc (rqr rfl) (rnc (rqr rfl) (rnc (rqr rfl) (rnc (rqr rfl) (rnc (rqr rfl) rn0))))))))) ln) (qb (lc (.rn (Qa2 rfl)) ln) (qb (lc (rnd Qag) (lc (rnd Qab) ln)) (qb (lc (.rn (Qbi rn0 (rnc (rqr rfl) (rnc (rqr rfl) (rnc (rqr rfl) (rnc (rqr rfl) (rnc (rqr rfl) rn0))))))) ln) (qb (lc (rnd Qaf) ln) (qb (lc (rnd Qai) ln) (qb (lc rwl ln) (qb (lc (rnd Qaf) ln) (qb (lc rwl ln) (qc (spr Qaf) qn)))))))))))) (ih (x29.1,x29.2.1,x29.2.2.1,x29.2.2.2.set p0.toNat (w64 (x31+1))) h)
   ·refine wfn hc27<|Qbf<|Qaw<|Qaw<|Qbe rfl ?_
    obtain rfl:=osi h
    exact⟨_,(mto (n:=33) (l':=[]) (own':=[(.own 1 [[I p1]]),(.own 1 [[Qng]]),(Qly p2),(Qlz p3 p4),(.own 1 [[Qks]]),(Qlx p5),(.own 1 [[(Qlw p6)]]),(.own 1 [[I y15]]),(Qxb y16),(.own 1 [[B y17]]),(.own 1 (y18.map Qad))]) [] [0,1,2,3,4,5,6,7,8,9,10] [(.own 1 [[I p1]]),(.own 1 [[Qng]]),(Qly p2),(Qlz p3 p4),(.own 1 [[Qks]]),(Qlx p5),(.own 1 [[(Qlw p6)]]),(.own 1 [[I y15]]),(Qxb y16),(.own 1 [[B y17]]),(.own 1 (y18.map Qad))] hφ0 pn (qb (lc rwl ln) (qb (lc (.rn (Qbi rn0 (rnc (rqr rfl) (rnc (rqr rfl) (rnc (rqr rfl) (rnc (rqr rfl) (rnc (rqr rfl) (rnc (rqr rfl) (rnc (rqr rfl) rn0))))))))) ln) (qb (lc (.rn (Qa2 rfl)) ln) (qb (lc (rnd Qag) (lc (rnd Qab) ln)) (qb (lc (.rn (Qbi rn0 (rnc (rqr rfl) (rnc (rqr rfl) (rnc (rqr rfl) (rnc (rqr rfl) (rnc (rqr rfl) rn0))))))) ln) (qb (lc (rnd Qaf) ln) (qb (lc (rnd Qai) ln) (qb (lc rwl ln) (qb (lc (rnd Qaf) ln) (qb (lc rwl ln) (qc (spr Qaf) qn)))))))))))),Qc1 (vs:=[]) tv rfl (NLt.tup _ nl0) (by kernel_rfl) (Qao (Qax (nlc (NLt.of0 nll) nl0)) (Qao (Qax (nlc (NLt.fn _ _ _ nl0 (nlc (NLt.ref _ _ _ _ (by decide)) (nlc (NLt.ref _ _ _ _ (by decide)) (nlc (NLt.ref _ _ _ _ (by decide)) (nlc (NLt.ref _ _ _ _ (by decide)) (nlc (NLt.ref _ _ _ _ (by decide)) (nlc (NLt.ref _ _ _ _ (by decide)) (nlc (NLt.ref _ _ _ _ (by decide)) nl0)))))))) nl0)) (Qao (Qax (nlc (NLt.own _ _ _ _ (by decide)) nl0)) (Qao (Qax (nlc (NLt.of0 (nld Qag _)) (nlc (NLt.of0 (nld Qab _)) nl0))) (Qao (Qax (nlc (NLt.fn _ _ _ nl0 (nlc (NLt.ref _ _ _ _ (by decide)) (nlc (NLt.ref _ _ _ _ (by decide)) (nlc (NLt.ref _ _ _ _ (by decide)) (nlc (NLt.ref _ _ _ _ (by decide)) (nlc (NLt.ref _ _ _ _ (by decide)) nl0)))))) nl0)) (Qao (Qax (nlc (NLt.of0 (nld Qaf _)) nl0)) (Qao (Qax (nlc (NLt.of0 (nld Qai _)) nl0)) (Qao (Qax (nlc (NLt.of0 nll) nl0)) (Qao (Qax (nlc (NLt.of0 (nld Qaf _)) nl0)) (Qao (Qax (nlc (NLt.of0 nll) nl0)) (Qao (Qb0 Qaf _) Qbq)))))))))))⟩
def Qmq (N:Nat) (p0:GNet) (p1:List Int) (p2:List (List Qaa)):Option ((List Int)×Int×Int):=
  (Qju N p0 p1 p2).bind fun x2=>
  bif (x2 != 0) then
   some ([],0,x2)
  else
   (Qf2 N p0 4).bind fun x5=>
   bif (decide ((x5.length:Int)>3)) then
    some ([],0,3)
   else
    chk (decide (0≤(x5.length:Int))&&decide (8*(x5.length:Int)≤281474976710656)&&decide ((x5.length:Int)≤9223372036854775807))<|
    (Qff N 0 (x5.length:Int) ((x5.length:Int).toNat) p0.Table p0.Elements p1 p2 (-1) ([]) false (List.replicate (x5.length:Int).toNat 0)).bind fun x9=>
    bif (!x9.2.2.1) then
     some ([],0,7)
    else
     some (x9.2.1,x9.1,0)
def Zic (p2:List (List Qaa)):AV:=.dat 1 (p2.map Qak)
def Qvz:AV:=.dat 1 (([]:List Int).map Qad)
def Zia (x5:List Int):Slot:=.own 1 ((List.replicate (x5.length:Int).toNat 0:List Int).map Qad)
def Q1o:AV:=.fn (.func 90) [] [(.ref 0 2 (0) 0),(.ref 8 1 (0) 0),(.ref 1 1 (0) 0),(.ref 2 1 (0) 0),(.ref 5 1 (0) 0),(.ref 4 1 (0) 0),(.ref 6 1 (0) 0)]
def Q1n:AV:=.fn (.func 92) [] [(.ref 3 1 (0) 0),(.ref 9 1 (0) 0),(.ref 8 1 (0) 0),(.ref 0 2 (0) 0),(.ref 10 1 (0) 0)]
def Zib (x5:List Int):Slot:=.own 1 [[(I ((x5.length:Int)))]]
def Zie (p0:GNet):Slot:=.own 2 [[(.dat 5 (p0.Table.map Qaq)),(.dat 7 (p0.Elements.map Qac))]]
def Zid (p1:List Int):Slot:=.own 1 [[(.dat 1 (p1.map Qad))]]
theorem Qxx (N:Nat) (p0:GNet) (p1:List Int) (p2:List (List Qaa)) (r:((List Int)×Int×Int)) (h:Qmq N p0 p1 p2=some r):Spec prog 51 [(.agg (Qf6 p0)),(.dat 1 (p1.map Qad)),(.dat 1 (p2.map Qak))] [] (.tup [(.dat 1 (r.1.map Qad)),(I r.2.1),(I r.2.2)]) []:=by
  refine Qan func51 rfl 0 (nle rfl) (fun X φ0 w0 hφ0 hd0=>?_)
  unfold Qmq at h
  refine wxz<|wsq ?_
  obtain⟨x2,hf1,h⟩:=bno h
  refine wx tbk [(3,rp _ _)] ⟨apv Zcb (Qo9 N p0 p1 p2 _ hf1) (nlc (NLt.agg _ (nlc (nld Qag _) (nlc (nld Qab _) nl0))) (nlc (nld Qaf _) (nlc (nld Qai _) nl0))) nll,tv⟩<|wxz ?_
  refine bfe h (fun hc3 h=>?_) fun hc3 h=>?_
  ·refine wft hc3<|wxz<|Qaj<|Qal ?_
   obtain rfl:=osi h
   exact fend ⟨[Qvz,I 0,I x2],⟨Qb3 (v:=nilS) rot Less.nil,rot,rot,tv⟩,rfl⟩ (NLt.tup _ (nlc (nld Qaf _) (nlcc nl0)))
  ·refine wfn hc3<|Qap<|thn ?_
   obtain⟨x5,hf4,h⟩:=bno h
   refine wx tbk [(1,rp _ _),(2,rp _ _)] ⟨apv Qpw (Qgf N p0 4 _ hf4) (nlc (NLt.agg _ (nlc (nld Qag _) (nlc (nld Qab _) nl0))) (nlc nll nl0)) (nld Qaf _),alq 1 Qad x5 underlying27,tv⟩<|wsq<|wxz ?_
   refine bfe h (fun hc6 h=>?_) fun hc6 h=>?_
   ·refine wft hc6<|wxz<|Qaj<|Qal ?_
    obtain rfl:=osi h
    exact fend ⟨[Qvz,I 0,I 3],⟨Qb3 (v:=nilS) rot Less.nil,rot,rot,tv⟩,rfl⟩ (NLt.tup _ (nlc (nld Qaf _) (nlcc nl0)))
   ·refine wfn hc6<|Qap<|thn ?_
    refine wx tbk [(0,⟨[],[(4,.unused)],.ref 4 1 0 0,[(4,.own 1 [[Qvz]])],false⟩)] ⟨Qpz (SImp.box (l:=[nilS]) ⟨Less.nil,tv⟩) (Qnb rfl tz27 rfl),tv⟩<|wxz ?_
    obtain⟨hm7,h⟩:=cko h
    refine wx tbk [(1,⟨[(.tmp 29,(I ((x5.length:Int)))),(.tmp 29,(I ((x5.length:Int))))],[(7,.unused)],(.own 7 1 (0) ((x5.length:Int).toNat)),[(7,(Zia x5))],false⟩),(2,⟨[],[(8,.unused)],.ref 8 1 0 0,[(8,.own 1 [[Qvz]])],false⟩)] ⟨Qor rfl underlying27 te3 tz3 rfl (Q22 hm7) rfl (Q21 hm7) (Q5x hm7) (Q12 Qad rfl),Qpz (SImp.box (l:=[nilS]) ⟨Less.nil,tv⟩) (Qnb rfl tz27 rfl),tv⟩ ?_
    refine wx tbk [(0,rp [(.tmp 3,.ref 0 2 0 0),(.tmp 14,.ref 8 1 0 0),(.tmp 4,.ref 1 1 0 0),(.tmp 5,.ref 2 1 0 0),(.tmp 12,.ref 5 1 0 0),(.tmp 11,.ref 4 1 0 0),(.tmp 13,.ref 6 1 0 0)] Q1o)] ⟨Qfq (fs:=[]) (cs:=[.ref 0 2 0 0,.ref 8 1 0 0,.ref 1 1 0 0,.ref 2 1 0 0,.ref 5 1 0 0,.ref 4 1 0 0,.ref 6 1 0 0]) rfl rfl rfl rfl,tv⟩<|wxz ?_
    refine wx tbk [(0,rp [(.tmp 10,.ref 3 1 0 0),(.tmp 15,.ref 9 1 0 0),(.tmp 14,.ref 8 1 0 0),(.tmp 3,.ref 0 2 0 0),(.tmp 16,.ref 10 1 0 0)] Q1n)] ⟨Qfq (fs:=[]) (cs:=[.ref 3 1 0 0,.ref 9 1 0 0,.ref 8 1 0 0,.ref 0 2 0 0,.ref 10 1 0 0]) rfl rfl rfl rfl,tv⟩ ?_
    obtain⟨x9,hf8,h⟩:=bno h
    refine wx tbk [(1,⟨_,_,_,_,false⟩)] ⟨Qav (first:=[]) (cap:=[.ref 3 1 0 0,.ref 9 1 0 0,.ref 8 1 0 0,.ref 0 2 0 0,.ref 10 1 0 0]) (vs:=[I 0]) (σr:=[(Zib x5),(.own 1 [[Q1o]]),(.own 1 [[(.own 7 1 (0) ((x5.length:Int).toNat))]]),(Zie p0),(.own 1 [[Q1n]]),(Zid p1),(.own 1 [[(Zic p2)]]),(.own 1 [[(I ((-1)))]]),(.own 1 [[Qvz]]),(.own 1 [[B false]]),(Zia x5)]) (σr':=[(Zib x5),(.own 1 [[Q1o]]),(.own 1 [[(.own 7 1 (0) (((x5.length:Int).toNat)))]]),(Zie p0),(.own 1 [[Q1n]]),(Zid p1),(.own 1 [[(Zic p2)]]),(.own 1 [[I x9.1]]),(.own 1 [[(.dat 1 (x9.2.1.map Qad))]]),(.own 1 [[B x9.2.2.1]]),(.own 1 (x9.2.2.2.map Qad))]) (res':=(.tup [])) [3,9,8,0,10,1,2,5,4,6,7] rfl Zb8 (Qru N 0 (x5.length:Int) ((x5.length:Int).toNat) p0.Table p0.Elements p1 p2 (-1) ([]) false (List.replicate (x5.length:Int).toNat 0) _ hf8) rfl (Qbs (rnc (.plain _ nll) (rnc (Qa1 rfl) (rnc (Qa1 rfl) (rnc (Qa1 rfl) (rnc (Qa1 rfl) (rnc (Qa1 rfl) rn0))))))) (slc (Qas (rnc (.plain _ nll) rn0)) (slc (Qas (rnc (Qbi rn0 (rnc (Qa1 rfl) (rnc (Qa1 rfl) (rnc (Qa1 rfl) (rnc (Qa1 rfl) (rnc (Qa1 rfl) (rnc (Qa1 rfl) (rnc (Qa1 rfl) rn0)))))))) rn0)) (slc (Qas (rnc (Qc4 rfl) rn0)) (slc (Qas (rnc (pld Qag) (rnc (pld Qab) rn0))) (slc (Qas (rnc (Qbi rn0 (rnc (Qa1 rfl) (rnc (Qa1 rfl) (rnc (Qa1 rfl) (rnc (Qa1 rfl) (rnc (Qa1 rfl) rn0)))))) rn0)) (slc (Qas (rnc (pld Qaf) rn0)) (slc (Qas (rnc (pld Qai) rn0)) (slc (Qas (rnc (.plain _ nll) rn0)) (slc (Qas (rnc (pld Qaf) rn0)) (slc (Qas (rnc (.plain _ nll) rn0)) (slc (Qa9 Qaf) Qau))))))))))) (slc (Qas (rnc (.plain _ nll) rn0)) (slc (Qas (rnc (Qbi rn0 (rnc (Qbb rfl) (rnc (Qbb rfl) (rnc (Qbb rfl) (rnc (Qbb rfl) (rnc (Qbb rfl) (rnc (Qbb rfl) (rnc (Qbb rfl) rn0)))))))) rn0)) (slc (Qas (rnc (Qc0 rfl) rn0)) (slc (Qas (rnc (pld Qag) (rnc (pld Qab) rn0))) (slc (Qas (rnc (Qbi rn0 (rnc (Qbb rfl) (rnc (Qbb rfl) (rnc (Qbb rfl) (rnc (Qbb rfl) (rnc (Qbb rfl) rn0)))))) rn0)) (slc (Qas (rnc (pld Qaf) rn0)) (slc (Qas (rnc (pld Qai) rn0)) (slc (Qas (rnc (.plain _ nll) rn0)) (slc (Qas (rnc (pld Qaf) rn0)) (slc (Qas (rnc (.plain _ nll) rn0)) (slc (Qa9 Qaf) Qau))))))))))) (.plain _ (NLt.tup _ nl0)) rfl rfl rfl,tv⟩<|wsq<|wxz ?_
    refine bfe h (fun hc10 h=>?_) fun hc10 h=>?_
    ·refine wft hc10<|wxz<|Qaj<|Qal ?_
     obtain rfl:=osi h
     exact fend ⟨[Qvz,I 0,I 7],⟨Qb3 (v:=nilS) rot Less.nil,rot,rot,tv⟩,rfl⟩ (NLt.tup _ (nlc (nld Qaf _) (nlcc nl0)))
    ·refine wfn hc10<|Qap<|thn<|wxe<|Qaj ?_
     obtain rfl:=osi h
     exact fend ⟨[(.dat 1 (x9.2.1.map Qad)),I x9.1,I 0],⟨rot,rot,rot,tv⟩,rfl⟩ (NLt.tup _ (nlc (nld Qaf _) (nlcc nl0)))
def Qei (N:Nat) (p0:GNet) (k2:Int→Option Bool):Nat→Int→Int→Option Bool
  |0,_,_=>none
  |n7+1,y3,y4=>
    Qbl (fun _=>
      (some (w64 (y3*(p0.Table.length:Int)))).bind fun x9=>
      Qei N p0 k2 n7 x9 (w64 (y4+1))) fun k8:Unit→Option Bool=>
    (Qh0 N p0 4).bind fun x12=>
    bif (decide (y4<x12)) then
     bif (decide (y3≤150)) then
      k8 ()
     else
      k2 (y3)
    else
     k2 (y3)
def Qjw (N:Nat) (p0:GNet):Option Bool:=
  Qbl (fun y1=>
    some (decide (y1>150))) fun k2:Int→Option Bool=>
  Qei N p0 k2 N 1 0
def Zh8 (p0:GNet):AV:=.dat 5 (p0.Table.map Qaq)
def Zh7 (p0:GNet):AV:=.dat 7 (p0.Elements.map Qac)
def Qvw (p0:GNet):Slot:=.own 2 [[(Zh8 p0),(Zh7 p0)]]
def Q9c (p0:GNet) (x12:Int):List (Nat×Rec):=[(2,rp [fu 29,((.tmp 6),(.agg [(Zh8 p0),(Zh7 p0)])),((.const (.int .u8 4)),(K .u8 (4)))] (I x12))]
theorem Qvs (N:Nat) (p0:GNet) (r:Bool) (h:Qjw N p0=some r):Spec prog 50 [(.agg (Qf6 p0))] [] (B r) []:=by
  refine Qan func50 rfl 0 (nle rfl) (fun X φ0 w0 hφ0 hd0=>?_)
  unfold Qjw at h
  refine wxz<|wxz ?_
  obtain⟨k2,hk_k2,h⟩:=jko h
  refine wjn (τ:=Int) (fun t=>k2 t=some r) (fun y1=>⟨mk 22 [(3,I y1)],[]⟩) (fun y1 h=>?_) ?_
  ·subst hk_k2
   refine wxz<|Qaj ?_
   obtain rfl:=osi h
   exact fend ⟨[(B ((decide (y1>150))))],⟨rot,tv⟩,rfl⟩ nll
  ·skip
   refine wxz<|Qar ?_
   refine wmr (mto (n:=22) (l':=[(1,.ref 0 2 0 0),(3,I 1),(4,I 0)]) (own':=[(Qvw p0)]) [(1,.ref 0 2 0 0),(3,I 1),(4,I 0)] [0] [(Qvw p0)] hφ0 (prr (pw (pw pn))) (qb (lc (rnd Qag) (lc (rnd Qab) ln)) qn)) ?_
   refine Qbt (τ:=Int×Int) (fun n t=>Qei N p0 k2 n t.1 t.2=some r) (fun ⟨y3,y4⟩=>⟨mk 22 [(1,.ref 0 2 0 0),(3,I y3),(4,I y4)],[(Qvw p0)]⟩) (fun t h=>by rw[Qei] at h;cases h) (fun n7 ih t h=>?_) N (1,0) h
   obtain⟨y3,y4⟩:=t
   rw[Qei] at h
   skip
   obtain⟨k8,hk_k8,h⟩:=jko h
   refine wjn (τ:=Unit) (fun t=>k8 t=some r) (fun _=>⟨mk 22 [(1,.ref 0 2 0 0),(3,I y3),(4,I y4)],[(Qvw p0)]⟩) (fun t h=>?_) ?_
   ·subst hk_k8
    refine wsq<|Qar ?_
    obtain⟨x9,hl10,h⟩:=bno h
    exact wx1 tbk [(3,rp _ _),(5,rp [(.tmp 19,(I (w64 (y3*(p0.Table.length:Int)))))] (I x9))] ⟨alq 5 Qaq p0.Table underlying23,Qkz hl10 (aas rfl),tv⟩<|bln<|thn<|wxz1<|thn<|arm (mto (n:=22) [(1,.ref 0 2 0 0),(3,I x9),(4,(I (w64 (y4+1))))] [0] [(Qvw p0)] hφ0 (prr (pw (pw pn))) (qb (lc (rnd Qag) (lc (rnd Qab) ln)) qn)) (ih (x9,w64 (y4+1)) h)
   ·skip
    obtain⟨x12,hf11,h⟩:=bno h
    refine hpre (A:=(Q9c p0 x12)) ⟨apv Q2j (Qlf N p0 4 _ hf11) (nlc (NLt.agg _ (nlc (nld Qag _) (nlc (nld Qab _) nl0))) (nlc nll nl0)) nll,tv⟩ fun q1_=>?_
    refine bfe h (fun hb13 h=>?_) fun hb13 h=>?_
    ·refine wx tbk (hcat (Q9c p0 x12) [(4,rp [(.tmp 8,(B ((decide (y4<x12)))))] (B true))]) (hap q1_ ⟨asb hb13 (amv rfl),tv⟩) ?_
     refine bfe h (fun hc14 h=>?_) fun hc14 h=>?_
     ·exact wft hc14<|Qap<|thn<|⟨(),h,(mto (n:=22) [(1,.ref 0 2 0 0),(3,I y3),(4,I y4)] [0] [(Qvw p0)] hφ0 (prr (pw (pw pn))) (qb (lc (rnd Qag) (lc (rnd Qab) ln)) qn))⟩
     ·exact wfn hc14<|Qbf<|Qaw<|Qaw<|Qbe rfl<|thn<|⟨(y3),h,(mto (n:=22) [(3,I y3)] [] [] hφ0 (pw pn) qn)⟩
    ·exact wx tbk (hcat (Q9c p0 x12) [(4,rp [(.tmp 8,(B ((decide (y4<x12)))))] (B false))]) (hap q1_ ⟨asb hb13 (amv rfl),tv⟩)<|wfa<|Qbf<|Qaw<|Qaw<|Qbe rfl<|thn<|⟨(y3),h,(mto (n:=22) [(3,I y3)] [] [] hφ0 (pw pn) qn)⟩
end
end Go.Proofs.YtmbhnllcfmiajaaGreat
