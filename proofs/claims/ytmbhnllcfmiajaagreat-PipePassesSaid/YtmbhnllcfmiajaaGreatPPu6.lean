/-
  Plain laws on the tick of a net into which an element is put that lets a stream through. No conditions but validity.
-/
import Derived.Test.YtmbhnllcfmiajaaGreatPIn6
import Derived.Test.YtmbhnllcfmiajaaGreatPLf6
namespace Go.Proofs.YtmbhnllcfmiajaaGreat
open Go.RowKit
def insO (to:Nat) (S:List GStream) (o:List (List GStream)):List (List GStream):=o.take to++S::o.drop to
theorem Q2k {to:Nat} {S:List GStream} {o:List (List GStream)}:(insO to S o).length=o.length+1:=by
 unfold insO
 simp only [List.length_append,List.length_cons,List.length_take,List.length_drop]
 omega
theorem Q2l {to:Nat} {S:List GStream} {o:List (List GStream)} (h:to≤o.length) (r:List GStream):insO to S (o++[r])=insO to S o++[r]:=by
 unfold insO
 rw [List.take_append_of_le_length h,List.drop_append_of_le_length h,List.append_assoc]
 rfl
theorem Q9f {to:Nat} {S:List GStream} {o:List (List GStream)} (h:to≤o.length) {j:Nat} (hj:j<to):(insO to S o)[j]? = o[j]? := by
 unfold insO
 rw [List.getElem?_append_left (by rw [List.length_take]; omega),List.getElem?_take_of_lt hj]
theorem Q9g {to:Nat} {S:List GStream} {o:List (List GStream)} (h:to≤o.length) {j:Nat} (hj:to≤j):(insO to S o)[j+1]? = o[j]? := by
 unfold insO
 rw [List.getElem?_append_right (by rw [List.length_take]; omega),List.length_take,Nat.min_eq_left h,show j+1 - to=(j - to)+1 by omega,List.getElem?_cons_succ,List.getElem?_drop,show to+(j - to)=j by omega]
theorem Q8s {to:Nat} {S:List GStream} {o:List (List GStream)} (h:to≤o.length) {p:GPort} (h0:0≤p.Element):Qgd (insO to S o) (shP to p)=Qgd o p:=by
 unfold Qgd
 rw [List.getD_eq_getElem?_getD (l:=insO to S o),List.getD_eq_getElem?_getD (l:=o)]
 by_cases hl:p.Element<to
 ·rw [Qw0 hl,Q9f h (by omega)]
 ·rw [Zb8 (by omega)]
  dsimp only
  rw [show (p.Element+1).toNat=p.Element.toNat+1 by omega,Q9g h (by omega)]
theorem Zi3 {k:Int} (hk:k=3∨k=6) (t:List GRow) (p:GPort) (lv:Int) {s:GStream} (hs:StrV s):actE t (newE k p lv) s=([s],⟨0,0,0,0⟩,0):=by
 have h0:=hs.h0
 rcases hk with rfl | rfl
 ·have hc:Qpj (newE 3 p lv) s=0:=by
   show (if s.Heat<0 then s.Heat else 0)=0
   rw [if_neg (by omega)]
  unfold actE
  rw [if_pos (show (newE 3 p lv).Kind=3 from rfl),hc,Int.sub_zero]
 ·rfl
theorem Zi2 {k:Int} (p:GPort) (lv:Int):widI (newE k p lv) 0=1000000:=rfl
def RelT (to:Nat):Nat⊕Qv5→Nat⊕Qv5→Prop
 | .inl a,.inl b=>(a<to∧b=a)∨(to≤a∧b=a+1)
 | .inr q,.inr q'=>to≤q.1.length∧∃ S,q'.1=insO to S q.1
 | _,_=>False
theorem Qtf (t:List GRow) (to:Nat) (S:List GStream):∀ (l:List GElement) (v:List Int) (W:List GStream) (o:List (List GStream)) (ls ls':List GLost) (ss ss':List Int) (y y':Int),to≤o.length→(∀ x ∈ l,∀ p ∈ x.From,0≤p.Element) →
  RelT to (Qhn t (l.zip v) W o ls ss y) (Qhn t ((l.map (shE to)).zip v) W (insO to S o) ls' ss' y')
 | [],v,W,o,ls,ls',ss,ss',y,y',ho,_=>by
  rw [List.map_nil,List.zip_nil_left,Qhn,Qhn]
  exact ⟨ho,S,rfl⟩
 | x::l,[],W,o,ls,ls',ss,ss',y,y',ho,_=>by
  rw [List.zip_nil_right,List.zip_nil_right,Qhn,Qhn]
  exact ⟨ho,S,rfl⟩
 | x::l,d::v,W,o,ls,ls',ss,ss',y,y',ho,hp=>by
  have hin:insE (insO to S o) W (shE to x)=insE o W x:=by
   unfold insE
   show (if x.Kind=1 then _ else (x.From.map (shP to)).map _)=_
   by_cases hk:x.Kind=1
   ·rw [if_pos hk,if_pos hk]
   ·rw [if_neg hk,if_neg hk,List.map_map]
    exact List.map_congr_left fun p hq=>Q8s ho (hp x List.mem_cons_self p hq)
  rw [List.map_cons,List.zip_cons_cons,List.zip_cons_cons,Qhn,Qhn,hin]
  show RelT to _ (if (totS (insE o W x)).Mass>widI x d then _ else Qhn t _ (if x.Kind=1 then W.drop 1 else W) (insO to S o++[(actE t x (totS (insE o W x))).1]) _ _ _)
  by_cases hm:(totS (insE o W x)).Mass>widI x d
  ·rw [if_pos hm,if_pos hm]
   exact .inr ⟨ho,Q2k⟩
  ·rw [if_neg hm,if_neg hm,← Q2l ho]
   exact Qtf t to S l v _ _ _ _ _ _ _ _ (by simp; omega) fun y hy=>hp y (List.mem_cons_of_mem _ hy)
section
variable {n : GNet} (hv : NetV n) {ws : List GStream} (hf : FedV n ws) {st : List Int} (hst : StV n st) {to : Nat} {k : Int} {x z : GElement} {p0 : GPort} {R : List GPort} (hP : Put n to k x z p0 R)
include hv hf hst hP
theorem Zbz:∀ (m i:Nat) (o:List (List GStream)) (ls:List GLost) (ss:List Int) (y:Int),i+m=to→InvT n ws i o ls →
  RelT to (Qhn n.Table ((n.Elements.drop i).zip (st.drop i)) (ws.drop (wcn n i)) o ls ss y) (Qhn n.Table (((n.Elements.take to).drop i++newE k p0 z.Level::firE to x::(n.Elements.drop (to+1)).map (shE to)).zip ((st.take to++0::st.drop to).drop i)) (ws.drop (wcn n i)) o ls ss y):=by
 have hsl:=Qpu hst
 have hlt:=hP.lt
 intro m
 induction m with
 | zero=>
  intro i o ls ss y him hI
  obtain rfl:i=to:=by omega
  have hlo:=hI.lo
  have hx:=hP.xx
  have hp0:p0 ∈ x.From:=by rw [hP.ff]; exact List.mem_cons_self
  have hk1:x.Kind ≠ 1:=fun h1=>by
   have:=(Ql3 (hv.alone x (List.mem_of_getElem? hx))).well h1
   rw [this] at hp0
   cases hp0
  have hnk:¬ k=1:=by rcases hP.kk with rfl | rfl<;>decide
  obtain ⟨_,hs0,_⟩:=Ql8 hv hI hx hp0
  rw [show n.Elements.drop i=x::n.Elements.drop (i+1) by
   rw [List.drop_eq_getElem_cons hlt]
   rw [List.getElem?_eq_getElem hlt] at hx
   cases hx; rfl,show st.drop i=st[i]'(by omega)::st.drop (i+1) from List.drop_eq_getElem_cons (by omega)]
  rw [show (n.Elements.take i).drop i=[] by simp,List.nil_append,show (st.take i++0::st[i]'(by omega)::st.drop (i+1)).drop i=0::st[i]'(by omega)::st.drop (i+1) by
   rw [List.drop_append_of_le_length (by rw [List.length_take]; omega)]
   simp]
  rw [List.zip_cons_cons,List.zip_cons_cons,List.zip_cons_cons,Qhn,Qhn]
  have e1:insE o (ws.drop (wcn n i)) (newE k p0 z.Level)=[Qgd o p0]:=by
   unfold insE
   show (if k=1 then _ else [Qgd o p0])=_
   rw [if_neg hnk]
  have hm0:=hs0.m1
  rw [e1,Qj9,Zi2,if_neg (show ¬ (Qgd o p0).Mass>1000000 by omega),Zi3 hP.kk _ _ _ hs0]
  show RelT i _ (Qhn n.Table _ (if k=1 then _ else _) (o++[[Qgd o p0]]) _ _ _)
  rw [if_neg hnk,Qhn]
  have hio:insO i [Qgd o p0] o=o++[[Qgd o p0]]:=by
   unfold insO
   rw [List.take_of_length_le (by omega),List.drop_of_length_le (by omega)]
  have e2:insE (o++[[Qgd o p0]]) (ws.drop (wcn n i)) (firE i x)=insE o (ws.drop (wcn n i)) x:=by
   unfold insE
   show (if x.Kind=1 then _ else (firP i x.From).map _)=_
   rw [if_neg hk1,if_neg hk1,hP.ff,firP,List.map_cons,List.map_cons,List.map_map]
   congr 1
   ·unfold Qgd
    dsimp only
    rw [Int.toNat_natCast,List.getD_eq_getElem?_getD (l:=o++_),List.getElem?_append_right (by omega),hlo,Nat.sub_self]
    rfl
   ·refine List.map_congr_left fun p hp=>?_
    rw [Function.comp,← hio]
    exact Q8s (by omega) (hP.low hv (by rw [hP.ff]; exact List.mem_cons_of_mem _ hp)).1
  rw [e2]
  show RelT i _ (if (totS (insE o (ws.drop (wcn n i)) x)).Mass>widI x _ then _ else Qhn n.Table _ (if x.Kind=1 then _ else _) (o++[[Qgd o p0]]++[(actE n.Table x (totS (insE o (ws.drop (wcn n i)) x))).1]) _ _ _)
  by_cases hm:(totS (insE o (ws.drop (wcn n i)) x)).Mass>widI x (st[i]'(by omega))
  ·rw [if_pos hm,if_pos hm]
   exact .inr ⟨by omega,by simp⟩
  ·rw [if_neg hm,if_neg hm,← hio,← Q2l (by omega)]
   refine Qtf _ _ _ _ _ _ _ _ _ _ _ _ _ (by simp; omega) fun y hy p hp=>?_
   obtain ⟨j,hj,e⟩:=List.mem_iff_getElem.1 (List.mem_of_mem_drop hy)
   exact (hv.port j y p (by rw [← e]; exact List.getElem?_eq_getElem hj) hp).1
 | succ m ih=>
  intro i o ls ss y him hI
  have hi:i<n.Elements.length:=by omega
  have hg:n.Elements[i]? = some (n.Elements[i]):=List.getElem?_eq_getElem hi
  have hlo:=hI.lo
  rw [List.drop_eq_getElem_cons hi,show st.drop i=st[i]'(by omega)::st.drop (i+1) from List.drop_eq_getElem_cons (by omega)]
  rw [show (n.Elements.take to).drop i=n.Elements[i]::(n.Elements.take to).drop (i+1) by
   rw [List.drop_eq_getElem_cons (by rw [List.length_take]; omega)]
   simp,show (st.take to++0::st.drop to).drop i=st[i]'(by omega)::(st.take to++0::st.drop to).drop (i+1) by
   rw [List.drop_eq_getElem_cons (by simp; omega)]
   congr 1
   rw [List.getElem_append_left (by rw [List.length_take]; omega),List.getElem_take]]
  rw [List.cons_append,List.zip_cons_cons,List.zip_cons_cons,Qhn,Qhn]
  by_cases hm:(totS (insE o (ws.drop (wcn n i)) n.Elements[i])).Mass>widI n.Elements[i] (st[i]'(by omega))
  ·rw [if_pos hm,if_pos hm]
   exact .inl ⟨by omega,rfl⟩
  ·rw [if_neg hm,if_neg hm]
   have hw:ws.drop (wcn n (i+1))=if n.Elements[i].Kind=1 then (ws.drop (wcn n i)).drop 1 else ws.drop (wcn n i):=by
    rw [Qk5 hg]
    split
    ·rw [List.drop_drop]
    ·rfl
   rw [← hw]
   exact ih (i+1) _ _ _ _ (by omega) (Qvo hv hf hI hg (Qvp hv hf hI hg))
theorem Q74:RelT to (Qsv n st ws) (Qsv (putN n to k x z p0) (st.take to++0::st.drop to) ws):=by
 have h:=Zbz hv hf hst hP to 0 [] [] [] 0 (by omega) (Qrw n ws)
 rw [List.drop_zero,List.drop_zero,List.drop_zero,List.drop_zero,show wcn n 0=0 from rfl,List.drop_zero] at h
 exact h
omit hv hf hst in
theorem Zie:wcn (putN n to k x z p0) (putN n to k x z p0).Elements.length=wcn n n.Elements.length:=by
 have hnk:¬ k=1:=by rcases hP.kk with rfl | rfl<;>decide
 unfold wcn
 rw [List.take_length,List.take_length]
 have e1:(n.Elements.filter fun x=>decide (x.Kind=1)).length=((n.Elements.take to).filter fun x=>decide (x.Kind=1)).length+((x::n.Elements.drop (to+1)).filter fun x=>decide (x.Kind=1)).length:=by
  conv=>lhs; rw [hP.split]
  rw [List.filter_append,List.length_append]
 rw [e1]
 unfold putN
 rw [List.filter_append,List.length_append,List.filter_cons,List.filter_cons,List.filter_cons,if_neg (show ¬ decide ((newE k p0 z.Level).Kind=1)=true by rw [decide_eq_true_eq]; exact hnk),show decide ((firE to x).Kind=1)=decide (x.Kind=1) from rfl]
 have e2:(((n.Elements.drop (to+1)).map (shE to)).filter fun x=>decide (x.Kind=1)).length=((n.Elements.drop (to+1)).filter fun x=>decide (x.Kind=1)).length:=by
  rw [List.filter_map,List.length_map]
  rfl
 split
 ·rw [List.length_cons,List.length_cons,e2]
 ·rw [e2]
end
theorem Q8p {n:GNet} {ws:List GStream} {st:List Int} (hr:Qiz n st ws=0) {to:Nat} {k:Int} {x z:GElement} {p0:GPort} {R:List GPort} (hP:Put n to k x z p0 R) (hl:n.Elements.length≤15):Qiz (putN n to k x z p0) (st.take to++0::st.drop to) ws=0:=by
 obtain ⟨hv,_,_,_⟩:=Qn0 hr
 obtain ⟨b1,b2⟩:netB n=true∧stB n st=true:=by
  have h:=hr
  unfold Qiz at h
  cases hb:netB n&&stB n st with
  | false=>rw [hb] at h; cases h
  | true=>rw [Bool.and_eq_true] at hb; exact hb
 have b3:stB (putN n to k x z p0) (st.take to++0::st.drop to)=true:=by
  have hlt:=hP.lt
  unfold stB at b2 ⊢
  simp only [Bool.and_eq_true,decide_eq_true_eq] at b2 ⊢
  refine ⟨?_,List.all_eq_true.2 fun d hd=>?_⟩
  ·rw [hP.len]
   simp only [List.length_append,List.length_cons,List.length_take,List.length_drop]
   omega
  ·rw [List.mem_append,List.mem_cons] at hd
   rcases hd with h | rfl | h
   ·exact List.all_eq_true.1 b2.2 d (List.mem_of_mem_take h)
   ·rfl
   ·exact List.all_eq_true.1 b2.2 d (List.mem_of_mem_drop h)
 unfold Qiz at hr ⊢
 rw [b1,b2] at hr
 rw [hP.valid hv hl,b3]
 have hr2:fedI n ws=0:=hr
 show fedI _ ws=0
 unfold fedI at hr2 ⊢
 rw [Zie hP]
 exact hr2
end Go.Proofs.YtmbhnllcfmiajaaGreat
