/-
  Plain laws on what lies at the open ends of a net after a tick. No conditions but validity.
-/
import Derived.Test.YtmbhnllcfmiajaaGreatPTc6
namespace Go.Proofs.YtmbhnllcfmiajaaGreat
open Go.RowKit
theorem Q57 (i:Nat):∀ (r:List GStream) (j:Nat),Qpd i j r=(List.range r.length).map fun k:Nat=>(((i:Int),((j+k:Nat):Int)),r.getD k zs)
 | [],_=>rfl
 | x::r,j=>by
  rw [Qpd,Q57 i r (j+1),List.length_cons,List.range_succ_eq_map,List.map_cons,List.map_map]
  congr 1
  apply List.map_congr_left
  intro k _
  simp [show j+1+k=j+(k+1) by omega]
theorem Qwc (O:List (List GStream)):∀ (els:List GElement) (o pre:List (List GStream)),O=pre++o→els.length=o.length→(∀ (k:Nat) y r,els[k]? = some y→o[k]? = some r→(r.length:Int)=outl y) →
  Qhl pre.length o=(Qk4 pre.length els).map fun p=>(pq p,Qfh O p)
 | [],[],_,_,_,_=>rfl
 | x::els,r::o,pre,hO,hl,hr=>by
  have h1:=hr 0 x r rfl rfl
  have ih:=Qwc O els o (pre++[r]) (by rw [hO]; simp) (by simpa using hl) fun k y q hy hq=>hr (k+1) y q (by simpa using hy) (by simpa using hq)
  rw [List.length_append,List.length_singleton] at ih
  rw [Qhl,Qk4,List.map_append,ih,Q57,List.map_map,show (outl x).toNat=r.length by omega]
  congr 1
  apply List.map_congr_left
  intro k hk
  have hk':=List.mem_range.1 hk
  have hg:O.getD pre.length []=r:=by rw [hO,List.getD_eq_getElem?_getD,List.getElem?_append_right (Nat.le_refl _),Nat.sub_self]; rfl
  simp only [Function.comp,pq,Qfh,Int.toNat_natCast,hg,Nat.zero_add]
 | [],_::_,_,_,h,_=>by simp at h
 | _::_,[],_,_,h,_=>by simp at h
def Qol (n:GNet) (o:List (List GStream)):List GStream:=(Qnu n).map (Qfh o)
section
variable {n : GNet} (hv : NetV n) {ws : List GStream} {o : List (List GStream)} {ls : List GLost} (hI : InvT n ws n.Elements.length o ls)
include hI
theorem Q0n:Qhl 0 o=(Qk4 0 n.Elements).map fun p=>(pq p,Qfh o p):=Qwc o n.Elements o [] rfl hI.lo.symm hI.rows
theorem Zgj (f:GStream→Int):Qg4 f (Qh3 n n.Elements.length) (Qhl 0 o)=((Qol n o).map f).sum:=by
 rw [Q7l,Q0n hI]
 unfold Qg4 Qol Qnu
 rw [List.filter_map,List.map_map,List.map_map]
 rfl
theorem Q3g {p:GPort} (hp:p ∈ Qnu n):0≤p.Element∧0≤p.Outlet∧∃ r,o[p.Element.toNat]? = some r∧r[p.Outlet.toNat]? = some (Qfh o p):=by
 have h1:(pq p,Qfh o p) ∈ Qhl 0 o:=by
  rw [Q0n hI]
  exact List.mem_map.2 ⟨p,(List.mem_filter.1 hp).1,rfl⟩
 obtain ⟨a,b,r,c,d⟩:=Qnr.1 h1
 refine ⟨by simpa using a,b,r,?_,d⟩
 rw [show (p.Element - ((0:Nat):Int)).toNat=p.Element.toNat by simp] at c
 exact c
theorem Zcw:∀ s ∈ Qol n o,StrV s:=fun s hs=>by
 obtain ⟨p,hp,rfl⟩:=List.mem_map.1 hs
 obtain ⟨_,_,r,h1,h2⟩:=Q3g hI hp
 exact hI.v r (List.mem_of_getElem? h1) _ (List.mem_of_getElem? h2)
theorem Zb4 (hf:FedV n ws):(totS (Qol n o)).Mass=(totS ws).Mass∧(totS (Qol n o)).Heat+(ls.map fun l=>l.Heat).sum=(totS ws).Heat∧(totS (Qol n o)).Silica+(ls.map fun l=>l.Silica).sum+(ls.map fun l=>l.Scale).sum=(totS ws).Silica∧(totS (Qol n o)).Gas+(ls.map fun l=>l.Gas).sum=(totS ws).Gas:=by
 have e:ws.take (wcn n n.Elements.length)=ws:=List.take_of_length_le (by rw [hf.len]; exact Nat.le_refl _)
 have h1:=hI.m
 have h2:=hI.h
 have h3:=hI.q
 have h4:=hI.g
 rw [Zgj hI,e] at h1 h2 h3 h4
 exact ⟨h1,h2,h3,h4⟩
end
theorem Qz2 (N:Nat) (l:List GStream) (k:List GStream→Option (List GStream)) (hl:l.length≤1000):∀ (m i:Nat) (acc:List GStream),(l.drop i).length<m→acc.length=i→Qdm N l k m acc i=k (acc++l.drop i):=by
 intro m
 induction m with
 | zero=>intro i _ h; exact absurd h (Nat.not_lt_zero _)
 | succ m ih=>
  intro i acc h ha
  rw [Qdm]
  cases hd:l.drop i with
  | nil=>
   have:=Qbx hd
   simp [show ¬ ((i:Int)<l.length) from by omega]
  | cons p q=>
   obtain ⟨hg,hd',hlt⟩:=Qbl hd
   simp only [show decide ((i:Int)<l.length)=true from by simpa using hlt,cond_true,Qbu hg,Qko,Option.bind_some,chk]
   rw [show decide ((acc.length+[p].length) * 32≤140737488355328)=true by simp; omega,cond_true,Qa2 (x:=(i:Int)+1) (by omega) (by omega),show (i:Int)+1=((i+1:Nat):Int) by omega,
    ih (i+1) _ (by rw [hd']; rw [hd] at h; simp at h; omega) (by simp [ha]),hd',List.append_assoc]
   rfl
theorem Q7q {N:Nat} {l:List GStream} (hl:l.length≤1000) (hN:1001≤N):Qhf N l=some l:=by
 unfold Qhf
 simp only [Qbb]
 refine (Qz2 N l _ hl N 0 [] (by simp; omega) rfl).trans ?_
 rw [List.drop_zero,List.nil_append]
def Qhq (ls:List GLost):GLost:=⟨(ls.map fun l=>l.Heat).sum,(ls.map fun l=>l.Silica).sum,(ls.map fun l=>l.Gas).sum,(ls.map fun l=>l.Scale).sum⟩
theorem Qv7 (l:GLost) (ls:List GLost):Qhq (l::ls)=⟨l.Heat+(Qhq ls).Heat,l.Silica+(Qhq ls).Silica,l.Gas+(Qhq ls).Gas,l.Scale+(Qhq ls).Scale⟩:=by simp [Qhq]
theorem Zdd (N:Nat) (t:GTick) (f e:Int) (k:Int×Int×Int×Int×List GStream→Option (GStream×GStream×GLost×Int)) (y:List GStream) (hl:t.Lost.length≤1000):∀ (m i:Nat) (a b c d:Int),(t.Lost.drop i).length<m →
  Qdz N (t,f,e) k m i (w64 a) (w64 b) (w64 c) (w64 d) y=k (w64 (a+(Qhq (t.Lost.drop i)).Heat),w64 (b+(Qhq (t.Lost.drop i)).Silica),w64 (c+(Qhq (t.Lost.drop i)).Gas),w64 (d+(Qhq (t.Lost.drop i)).Scale),y):=by
 intro m
 induction m with
 | zero=>intro i _ _ _ _ h; exact absurd h (Nat.not_lt_zero _)
 | succ m ih=>
  intro i a b c d h
  rw [Qdz]
  cases hd:t.Lost.drop i with
  | nil=>
   have:=Qbx hd
   simp [show ¬ ((i:Int)<t.Lost.length) from by omega,Qhq]
  | cons x q=>
   obtain ⟨hg,hd',hlt⟩:=Qbl hd
   simp only [show decide ((i:Int)<t.Lost.length)=true from by simpa using hlt,cond_true,Qbu hg,Option.bind_some,Qjs]
   rw [Qa2 (x:=(i:Int)+1) (by omega) (by omega),show (i:Int)+1=((i+1:Nat):Int) by omega,ih (i+1) _ _ _ _ (by rw [hd']; rw [hd] at h; simp at h; omega),hd',Qv7]
   simp only [Int.add_assoc]
theorem Qv0 {N:Nat} {n:GNet} {ws:List GStream} {t:GTick} {ls:List GLost} (hI:InvT n ws n.Elements.length t.Out ls) (f e:Int) (k:List GStream→Option (GStream×GStream×GLost×Int)):∀ (q:List GPort) (y:List GStream),(∀ p ∈ q,p ∈ Qnu n)→y.length+q.length≤1000 →
  Qc6 N (t,f,e) k q y=k (y++q.map (Qfh t.Out))
 | [],y,_,_=>by simp [Qc6]
 | p::q,y,hq,hl=>by
  obtain ⟨h1,h2,r,h3,h4⟩:=Q3g hI (hq p List.mem_cons_self)
  have hc:decide ((y.length+[Qfh t.Out p].length) * 32≤140737488355328)=true:=by simp at hl ⊢; omega
  rw [Qc6]
  simp only [show getI t.Out p.Element=some r by unfold getI; rw [if_pos h1,h3],show getI r p.Outlet=some (Qfh t.Out p) by unfold getI; rw [if_pos h2,h4],Option.bind_some,chk,hc,cond_true]
  rw [Qv0 hI f e k q _ (fun z hz=>hq z (List.mem_cons_of_mem _ hz)) (by simp at hl ⊢; omega)]
  simp
def str0:GStream:=⟨0,0,0,0⟩
def Zp7:GLost:=⟨0,0,0,0⟩
def accA (n:GNet) (st:List Int) (ws:List GStream):GStream×GStream×GLost×Int:=
 if Qh5 n st ws=0 then Qom (Qsa n st ws) (fun _=>(str0,str0,Zp7,11)) (fun r=>(totS ws,totS (Qol n r.1),Qhq r.2.1,0)) else (str0,str0,Zp7,Qh5 n st ws)
theorem Zid {N:Nat} {n:GNet} (hs:Small n) (hN:1001≤N):Qf5 N n.Table n.Elements (Qxw n)=some (Qnu n):=by
 have e0:=hs.e
 unfold Qf5
 have h1:=Zd6 hs hN (Qxw n) N 0 (by simp; omega)
 rw [List.drop_zero] at h1
 exact h1
theorem Q02 {n:GNet} (hs:Small n):(Qnu n).length≤450:=by
 have e0:=hs.e
 have h2:=Qvz n.Elements 0 fun x hx=>(hs.x x hx).2
 have h3:=List.length_filter_le (fun p=>!(Qxw n).contains (pq p)) (Qk4 0 n.Elements)
 unfold Qnu
 omega
theorem Q50 {n:GNet} {ws:List GStream} {o:List (List GStream)} {ls:List GLost} (hI:InvT n ws n.Elements.length o ls) (hf:FedV n ws):(0≤(Qhq ls).Heat∧(Qhq ls).Heat≤4000000000)∧(0≤(Qhq ls).Silica∧(Qhq ls).Silica≤10000000000)∧(0≤(Qhq ls).Gas∧(Qhq ls).Gas≤1000000000)∧0≤(Qhq ls).Scale∧(Qhq ls).Scale≤10000000000:=by
 obtain ⟨k1,k2,k3,k4⟩:=Zb4 hI hf
 have v:=Qlr (Zcw hI)
 have w:=Qlr hf.v
 have hm:=hf.m
 have hg:=hf.g
 have n1:=Qhd (fun l:GLost=>l.Heat) ls fun l h=>(hI.l0 l h).1
 have n2:=Qhd (fun l:GLost=>l.Silica) ls fun l h=>(hI.l0 l h).2.1
 have n3:=Qhd (fun l:GLost=>l.Gas) ls fun l h=>(hI.l0 l h).2.2.1
 have n4:=Qhd (fun l:GLost=>l.Scale) ls fun l h=>(hI.l0 l h).2.2.2
 have:=v.h0
 have:=v.s0
 have:=v.g0
 have:=w.h1
 have:=w.s1
 unfold Qhq
 dsimp only
 omega
theorem Q8x {N:Nat} {n:GNet} (hs:Small n) (hN:1001≤N) {st:List Int} {ws:List GStream} (hl:ws.length≤1000) (hl2:st.length≤1000):Qi3 N n st ws=some (accA n st ws):=by
 unfold Qi3
 rw [Zj2 hs hN hl hl2,Option.bind_some]
 unfold doA accA
 by_cases hr:Qh5 n st ws=0
 ·obtain ⟨hv,hst,hf,_⟩:=Qp5 hr
  rw [if_pos hr,if_pos hr]
  cases ht:Qsa n st ws with
  | inl a=>rfl
  | inr r=>
   have hT:=Qsj hv hf hst ht
   have hI:=hT.inv
   have hE:=Q02 hs
   have hll:=hI.ll
   have e0:=hs.e
   simp only [Qom,show ((0:Int) != 0)=false from rfl,cond_false,Qbb,Zmf hs hv hN,Zid hs hN,Option.bind_some]
   refine (Qv0 (t:=⟨r.1,r.2.1,r.2.2.1⟩) hI 0 0 _ (Qnu n) [] (fun p h=>h) (by simp; omega)).trans ?_
   rw [List.nil_append]
   have:=fun k=>Zdd N ⟨r.1,r.2.1,r.2.2.1⟩ 0 0 k ((Qnu n).map (Qfh r.1)) (by dsimp only; omega) N 0 0 0 0 0 (by dsimp only; simp; omega)
   rw [Qpu] at this
   refine (this _).trans ?_
   obtain ⟨b1,b2,b3,b4⟩:=Q50 hI hf
   have hov:=Zcw hI
   have hol:(Qol n r.1).length≤450:=by unfold Qol; rw [List.length_map]; exact hE
   dsimp only
   rw [List.drop_zero,Qtf hl hN,Qkz hf.v hl,Option.bind_some]
   show (Qen N (Qol n r.1)).bind _=_
   rw [Qtf (by omega) hN,Qkz hov (by omega),Option.bind_some]
   simp only [Int.zero_add]
   rw [Qa2 (x:=(Qhq r.2.1).Heat) (by omega) (by omega),Qa2 (x:=(Qhq r.2.1).Silica) (by omega) (by omega),Qa2 (x:=(Qhq r.2.1).Gas) (by omega) (by omega),Qa2 (x:=(Qhq r.2.1).Scale) (by omega) (by omega)]
 ·rw [if_neg hr,if_neg hr]
  dsimp only
  rw [show (Qh5 n st ws != 0)=true by simpa using hr,cond_true]
  rfl
end Go.Proofs.YtmbhnllcfmiajaaGreat
