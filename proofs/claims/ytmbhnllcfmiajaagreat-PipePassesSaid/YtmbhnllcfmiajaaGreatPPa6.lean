/-
  PipePasses: the plain law. No conditions.
-/
import Derived.Test.YtmbhnllcfmiajaaGreatPPu6
import Derived.Test.YtmbhnllcfmiajaaGreatX13
namespace Go.Proofs.YtmbhnllcfmiajaaGreat
open Go.RowKit
theorem Q2i (N:Nat) {l:List Int} (h:l.length≤1000):Qg4 N l=some l:=by
 unfold Qg4
 simp only [chk,List.nil_append]
 rw [show decide ((([]:List Int).length+l.length) * 8≤140737488355328)=true by simp; omega,cond_true]
def Qne (b:Bool) (to:Nat):Nat→List GPort→List GPort
 | _,[]=>[]
 | j,p::q=>(bif b&&decide (j=0) then ⟨(to:Int),0⟩ else shP to p)::Qne b to (j+1) q
theorem Qrz (b:Bool) (to:Nat):∀ (l:List GPort) (j:Nat),(Qne b to j l).length=l.length
 | [],_=>rfl
 | _::q,j=>by rw [Qne,List.length_cons,List.length_cons,Qrz b to q]
theorem Qnd (to:Nat):∀ (l:List GPort) (j:Nat),Qne false to j l=l.map (shP to)
 | [],_=>rfl
 | _::q,j=>by rw [Qne,Qnd to q]; rfl
theorem Qxq (b:Bool) (to:Nat):∀ (l:List GPort) (j:Nat),Qne b to (j+1) l=l.map (shP to)
 | [],_=>rfl
 | _::q,j=>by rw [Qne,Qxq b to q,decide_eq_false (show ¬ j+1=0 by omega),Bool.and_false]; rfl
theorem Q4r (to:Nat) (l:List GPort):Qne true to 0 l=firP to l:=by
 cases l with
 | nil=>rfl
 | cons p q=>rw [Qne,Qxq]; rfl
theorem Q16 {α:Type} {a:List α} {j:Nat} (h:a.length=j) (p v:α) (q:List α):(a++p::q).set j v=a++v::q:=by
 rw [List.set_append_right _ _ (by omega),h,Nat.sub_self,List.set_cons_zero]
theorem Q2m {α:Type} {a:List α} {j:Nat} (h:a.length=j) (p:α) (q:List α):(a++p::q)[j]? = some p:=by
 rw [List.getElem?_append_right (by omega),h,Nat.sub_self]
 rfl
theorem Q9l (N:Nat) (to i:Nat) (x:GElement) (k:List GElement×List GPort→Option Bool) (hF:x.From.length≤1000) (hp:∀ p ∈ x.From,0≤p.Element∧p.Element≤1000):∀ (m j:Nat) (acc:List GElement) (dn:List GPort),(x.From.drop j).length<m→dn.length=j →
  Qa9 N (to:Int) (i:Int) x k m j acc (dn++x.From.drop j)=k (acc,dn++Qne (decide (i=to)) to j (x.From.drop j)):=by
 intro m
 induction m with
 | zero=>intro j _ _ h; exact absurd h (Nat.not_lt_zero _)
 | succ m ih=>
  intro j acc dn h hdn
  rw [Qa9]
  cases hd:x.From.drop j with
  | nil=>
   have:=Qcp hd
   rw [decide_eq_false (show ¬ ((j:Int)<((x.From.length:Nat):Int)) by omega),cond_false]
   rfl
  | cons p q=>
   obtain ⟨hg,hd',hlt⟩:=Qb8 hd
   obtain ⟨p0,p1⟩:=hp p (List.mem_of_getElem? hg)
   have hlen:(x.From.drop (j+1)).length<m:=by rw [hd']; rw [hd] at h; simp at h; omega
   have hstep:∀ y,y=dn++shP to p::q→(bif ((i:Int)==(to:Int)) then (bif ((j:Int)==0) then (bif (decide ((0:Int)≤(j:Int))&&decide (j<x.From.length)) then (y[j]?).bind fun _=>Qa9 N (to:Int) (i:Int) x k m (w64 ((j:Int)+1)) acc (y.set j (⟨(to:Int),0⟩:GPort)) else none)
     else Qa9 N (to:Int) (i:Int) x k m (w64 ((j:Int)+1)) acc y) else Qa9 N (to:Int) (i:Int) x k m (w64 ((j:Int)+1)) acc y)=k (acc,dn++Qne (decide (i=to)) to j (p::q)):=fun y hy=>by
    have hgo:∀ v,Qa9 N (to:Int) (i:Int) x k m (w64 ((j:Int)+1)) acc (dn++v::q)=k (acc,dn++v::Qne (decide (i=to)) to (j+1) q):=fun v=>by
     have:=ih (j+1) acc (dn++[v]) hlen (by simp [hdn])
     rw [hd',List.append_assoc,List.append_assoc] at this
     rw [Qbd (x:=(j:Int)+1) (by omega) (by omega),show (j:Int)+1=((j+1:Nat):Int) by omega]
     exact this
    rw [show (decide ((0:Int)≤(j:Int))&&decide (j<x.From.length))=true by simp; omega,cond_true,hy,Q2m hdn,Option.bind_some,Q16 hdn,hgo,hgo,Qne]
    by_cases h1:i=to
    ·rw [show ((i:Int)==(to:Int))=true by rw [h1]; simp,cond_true,decide_eq_true h1]
     by_cases h2:j=0
     ·rw [show ((j:Int)==0)=true by rw [h2]; rfl,decide_eq_true h2]
      rfl
     ·rw [show ((j:Int)==0)=false by rw [beq_eq_false_iff_ne]; omega,decide_eq_false h2]
      rfl
    ·rw [show ((i:Int)==(to:Int))=false by rw [beq_eq_false_iff_ne]; omega,decide_eq_false h1]
     rfl
   simp only [show decide ((j:Int)<((x.From.length:Nat):Int))=true from by simpa using hlt,cond_true,Qkc,chk,Int.toNat_natCast,Q2m hdn,Option.bind_some,Q16 hdn]
   rw [show (decide ((0:Int)≤(j:Int))&&decide (j<x.From.length))=true by simp; omega] at hstep ⊢
   simp only [cond_true] at hstep ⊢
   by_cases h1:p.Element≥(to:Int)
   ·rw [decide_eq_true h1,cond_true,Qbd (x:=p.Element+1) (by omega) (by omega),← Zb8 h1]
    have:=hstep _ rfl
    rw [Q2m hdn,Option.bind_some,Q16 hdn] at this
    exact this
   ·rw [decide_eq_false h1,cond_false]
    have:=hstep (dn++p::q) (by rw [Qw0 (by omega)])
    rw [Q2m hdn,Option.bind_some,Q16 hdn] at this
    exact this
def insL (new:GElement) (to:Nat):Nat→List GElement→List GElement
 | _,[]=>[]
 | i,x::l=>(bif decide (i=to) then [new] else [])++(⟨x.Kind,Qne (decide (i=to)) to 0 x.From,x.Level,x.Amount,x.Wide,x.Narrow,x.Weights⟩:GElement)::insL new to (i+1) l
theorem Q9h (new:GElement) (to:Nat):∀ (l:List GElement) (i:Nat),to<i→insL new to i l=l.map (shE to)
 | [],_,_=>rfl
 | x::l,i,h=>by
  rw [insL,Q9h new to l (i+1) (by omega),decide_eq_false (show ¬ i=to by omega),Qnd]
  rfl
theorem Qtt (new:GElement) (to:Nat) (x:GElement) (l2:List GElement):∀ (l1:List GElement) (i:Nat),i+l1.length=to→insL new to i (l1++x::l2)=l1.map (shE to)++new::firE to x::l2.map (shE to)
 | [],i,h=>by
  rw [List.nil_append,insL,Q9h new to l2 (i+1) (by simp at h; omega),decide_eq_true (show i=to by simpa using h),Q4r]
  rfl
 | y::l1,i,h=>by
  rw [List.cons_append,insL,Qtt new to x l2 l1 (i+1) (by simp at h; omega),decide_eq_false (show ¬ i=to by simp at h; omega),Qnd]
  rfl
theorem Zea {N:Nat} {n:GNet} (hs:Small n) (hv:NetV n) (hN:1001≤N) (to:Nat) (p0:GPort) (z:GElement) (kk:Int) (k:List GElement→Option Bool):∀ (m i:Nat) (acc:List GElement),(n.Elements.drop i).length<m→acc.length≤2 * i →
  Qbl N n (to:Int) p0 z kk k m i acc=k (acc++insL (newE kk p0 z.Level) to i (n.Elements.drop i)):=by
 have e0:=hs.e
 intro m
 induction m with
 | zero=>intro i _ h; exact absurd h (Nat.not_lt_zero _)
 | succ m ih=>
  intro i acc h ha
  rw [Qbl]
  cases hd:n.Elements.drop i with
  | nil=>
   have:=Qcp hd
   rw [decide_eq_false (show ¬ ((i:Int)<(n.Elements.length:Int)) by omega),cond_false,insL,List.append_nil]
  | cons x l=>
   obtain ⟨hg,hd',hlt⟩:=Qb8 hd
   have hx:=hs.x x (List.mem_of_getElem? hg)
   have hlen:(n.Elements.drop (i+1)).length<m:=by rw [hd']; rw [hd] at h; simp at h; omega
   have hport:∀ p ∈ x.From,0≤p.Element∧p.Element≤1000:=fun p hp=>by
    obtain ⟨a,b,_⟩:=hv.port i x p hg hp
    omega
   have hstep:∀ acc':List GElement,acc'.length≤2 * i+1→(bif x.From.isEmpty then (bif (decide ((acc'.length+([(⟨x.Kind,[],x.Level,x.Amount,x.Wide,x.Narrow,x.Weights⟩:GElement)]).length) * 88≤140737488355328)) then Qbl N n (to:Int) p0 z kk k m (w64 ((i:Int)+1)) (acc'++([(⟨x.Kind,[],x.Level,x.Amount,x.Wide,x.Narrow,x.Weights⟩:GElement)])) else none)
     else (bif (decide ((0+x.From.length) * 16≤140737488355328)) then Qa9 N (to:Int) (i:Int) x (fun y=>bif (decide (x.From.length≤y.2.length)) then (bif (decide ((y.1.length+([(⟨x.Kind,y.2.take x.From.length,x.Level,x.Amount,x.Wide,x.Narrow,x.Weights⟩:GElement)]).length) * 88≤140737488355328)) then
      Qbl N n (to:Int) p0 z kk k m (w64 ((i:Int)+1)) (y.1++([(⟨x.Kind,y.2.take x.From.length,x.Level,x.Amount,x.Wide,x.Narrow,x.Weights⟩:GElement)])) else none) else none) N 0 acc' x.From else none)) =
     k (acc'++(⟨x.Kind,Qne (decide (i=to)) to 0 x.From,x.Level,x.Amount,x.Wide,x.Narrow,x.Weights⟩:GElement)::insL (newE kk p0 z.Level) to (i+1) l):=fun acc' ha'=>by
    have hgo:∀ v:GElement,Qbl N n (to:Int) p0 z kk k m (w64 ((i:Int)+1)) (acc'++[v])=k (acc'++v::insL (newE kk p0 z.Level) to (i+1) l):=fun v=>by
     rw [Qbd (x:=(i:Int)+1) (by omega) (by omega),show (i:Int)+1=((i+1:Nat):Int) by omega,ih (i+1) (acc'++[v]) hlen (by simp; omega),hd',List.append_assoc]
     rfl
    have hc:∀ v:GElement,decide ((acc'.length+[v].length) * 88≤140737488355328)=true:=fun v=>by simp; omega
    cases hF:x.From with
    | nil=>
     rw [show ([]:List GPort).isEmpty=true from rfl,cond_true,hc,cond_true,hgo]
     rfl
    | cons p q=>
     rw [← hF,show x.From.isEmpty=false by rw [hF]; rfl,cond_false,show decide ((0+x.From.length) * 16≤140737488355328)=true by simp; omega,cond_true]
     have hq:=fun k'=>Q9l N to i x k' (by omega) hport N 0 acc' [] (by simp; omega) rfl
     simp only [List.nil_append,List.drop_zero] at hq
     refine (hq _).trans ?_
     dsimp only
     rw [Qrz,decide_eq_true (Nat.le_refl _),cond_true,hc,cond_true,hgo,List.take_of_length_le (by rw [Qrz]; exact Nat.le_refl _)]
   simp only [show decide ((i:Int)<(n.Elements.length:Int))=true from by simpa using hlt,cond_true,Qkc,chk,Qck hg,Option.bind_some]
   rw [insL]
   by_cases h1:i=to
   ·rw [show ((i:Int)==(to:Int))=true by rw [h1]; simp,cond_true,show decide ((acc.length+([(⟨kk,[p0],z.Level,0,1000000,1000000000,[]⟩:GElement)]).length) * 88≤140737488355328)=true by simp; omega,cond_true]
    have:=hstep (acc++[newE kk p0 z.Level]) (by simp; omega)
    rw [decide_eq_true h1] at this ⊢
    refine this.trans ?_
    rw [List.append_assoc]
    rfl
   ·rw [show ((i:Int)==(to:Int))=false by rw [beq_eq_false_iff_ne]; omega,cond_false]
    have:=hstep acc (by omega)
    rw [decide_eq_false h1] at this ⊢
    exact this
theorem Qti (N:Nat) (l:List GStream) (k:Unit→Option Bool) (hl:l.length≤1000):∀ (m j:Nat),(l.drop j).length<m→Qc2 N k l l m j=k ():=by
 intro m
 induction m with
 | zero=>intro j h; exact absurd h (Nat.not_lt_zero _)
 | succ m ih=>
  intro j h
  rw [Qc2]
  cases hd:l.drop j with
  | nil=>
   have:=Qcp hd
   simp [show ¬ ((j:Int)<l.length) from by omega]
  | cons x q=>
   obtain ⟨hg,hd',hlt⟩:=Qb8 hd
   simp only [show decide ((j:Int)<l.length)=true from by simpa using hlt,cond_true,Qck hg,Option.bind_some,beq_self_eq_true,Bool.not_true,cond_false]
   rw [Qbd (x:=(j:Int)+1) (by omega) (by omega),show (j:Int)+1=((j+1:Nat):Int) by omega,ih (j+1) (by rw [hd']; rw [hd] at h; simp at h; omega)]
theorem Q4k (N:Nat) (to:Nat) (S:List GStream) (t u:GTick) (e f:Int×Int) (k:Unit→Option Bool) (hN:1001≤N) (hl:t.Out.length≤1000) (ht:to≤t.Out.length) (hu:u.Out=insO to S t.Out) (hr:∀ r ∈ t.Out,r.length≤1000):∀ (m i:Nat),(t.Out.drop i).length<m→Qc3 N (to:Int) (t,e) (u,f) k m i=k ():=by
 intro m
 induction m with
 | zero=>intro i h; exact absurd h (Nat.not_lt_zero _)
 | succ m ih=>
  intro i h
  rw [Qc3]
  cases hd:t.Out.drop i with
  | nil=>
   have:=Qcp hd
   simp [show ¬ ((i:Int)<t.Out.length) from by omega]
  | cons x q=>
   obtain ⟨hg,hd',hlt⟩:=Qb8 hd
   have hx:=hr x (List.mem_of_getElem? hg)
   have hgo:=ih (i+1) (by rw [hd']; rw [hd] at h; simp at h; omega)
   simp only [show decide ((i:Int)<(t.Out.length:Int))=true from by simpa using hlt,cond_true,Qkc,Qck hg,Option.bind_some,hu]
   rw [Qbd (x:=(i:Int)+1) (by omega) (by omega),show (i:Int)+1=((i+1:Nat):Int) by omega,hgo]
   by_cases h1:(i:Int)≥(to:Int)
   ·rw [decide_eq_true h1,cond_true,Qck (show (insO to S t.Out)[i+1]? = some x by rw [Q9g ht (by omega)]; exact hg),Option.bind_some,bne_self_eq_false,cond_false]
    exact Qti N x (fun _=>k ()) hx N 0 (by simp; omega)
   ·rw [decide_eq_false h1,cond_false,Qck (show (insO to S t.Out)[i]? = some x by rw [Q9f ht (by omega)]; exact hg),Option.bind_some,bne_self_eq_false,cond_false]
    exact Qti N x (fun _=>k ()) hx N 0 (by simp; omega)
theorem Q8r {n:GNet} (hs:Small n) (hl:n.Elements.length≤15) {to:Nat} {k:Int} {x z:GElement} {p0:GPort} {R:List GPort} (hP:Put n to k x z p0 R):Small (putN n to k x z p0):=by
 refine ⟨hs.t,by rw [hP.len]; omega,fun y hy=>?_⟩
 rcases Qvf hy with h | rfl | rfl | ⟨w,h,rfl⟩
 ·exact hs.x y h
 ·exact ⟨by simp [newE],by simp [newE]⟩
 ·have:=hs.x x (List.mem_of_getElem? hP.xx)
  exact ⟨by show (firP to x.From).length≤25; rw [Q2r]; exact this.1,this.2⟩
 ·have:=hs.x w h
  exact ⟨by show (w.From.map _).length≤25; rw [List.length_map]; exact this.1,this.2⟩
theorem Zft {n:GNet} (hv:NetV n) {to:Nat} {k:Int} {x z:GElement} {p0:GPort} {R:List GPort} (hP:Put n to k x z p0 R):(⟨n.Table,insL (newE k p0 z.Level) to 0 n.Elements⟩:GNet)=putN n to k x z p0:=by
 have hlt:=hP.lt
 unfold putN
 congr 1
 conv=>lhs; rw [hP.split]
 rw [Qtt _ _ _ _ _ _ (by rw [List.length_take]; omega)]
 congr 1
 conv=>rhs; rw [← List.map_id (n.Elements.take to)]
 refine List.map_congr_left fun y hy=>?_
 obtain ⟨j,hj,e⟩:=List.mem_take_iff_getElem.1 hy
 have hm:y.From.map (shP to)=y.From:=Zfm fun p hp=>by
  have:=(hv.port j y p (by rw [← e]; exact List.getElem?_eq_getElem (by omega)) hp).2.1
  omega
 unfold shE
 rw [hm]
 rfl
end Go.Proofs.YtmbhnllcfmiajaaGreat
