/-
  Plain laws on a tick: what pipe.Do answers. No conditions but small sizes.
-/
import Derived.Test.YtmbhnllcfmiajaaGreatPTb6
namespace Go.Proofs.YtmbhnllcfmiajaaGreat
open Go.RowKit
theorem Q90 {N:Nat} {n:GNet} {i:Nat} {w:Int} {D:Nat} {ws:List GStream} {y:Int} {O:List (List GStream)} {Ls:List GLost} {Ss:List Int} {s:GStream} (hD:D=O.length) (hDl:D=Ls.length) (hDs:D=Ss.length) (hw:¬ s.Mass≤w) {ins:List GStream} (hin:Qby N n.Table n.Elements O Ls Ss ws y i=some ins) (htot:Qfe N ins=some s) :
  Qcr N i w n.Table n.Elements D D D ws y O Ls Ss=some (.inr i):=by
 unfold Qcr
 simp only [Qf8,Option.bind_some,chk,Qbp,show decide (D≤O.length)=true by simp; omega,show decide (D≤Ls.length)=true by simp; omega,show decide (D≤Ss.length)=true by simp; omega,cond_true]
 rw [show O.take D=O from by rw [hD,List.take_length],show Ls.take D=Ls from by rw [hDl,List.take_length],show Ss.take D=Ss from by rw [hDs,List.take_length],hin,Option.bind_some,htot,Option.bind_some,decide_eq_true (show s.Mass>w by omega),cond_true]
abbrev Qv5:=List (List GStream)×List GLost×List Int×Int
def Q4w {β:Type} (r:Nat⊕Qv5) (f:Nat→β) (g:Qv5→β):β:=match r with | .inl a=>f a | .inr b=>g b
theorem Q8d {α:Type} {o:List α} {i k:Nat} (h:o.length=i) (x y:α):(o++List.replicate (k+1) x).set i y=(o++[y])++List.replicate k x:=by
 rw [List.set_append_right _ _ (by omega),h,Nat.sub_self,List.replicate_succ,List.set_cons_zero,List.append_assoc]
 rfl
structure StV (n:GNet) (st:List Int):Prop where
 len:st.length=n.Elements.length
 bd:∀ d ∈ st,0≤d∧d≤1000000000000000
theorem Zlz {n:GNet} {st:List Int} (hst:stB n st=true):StV n st:=by
 unfold stB at hst
 simp only [Bool.and_eq_true,decide_eq_true_eq] at hst
 refine ⟨hst.1,fun d hd=>?_⟩
 have:=Qeq.1 (List.all_eq_true.1 hst.2 d hd)
 omega
theorem Qpu {n:GNet} {st:List Int} (hst:StV n st):st.length=n.Elements.length:=hst.len
theorem Zly {n:GNet} {st:List Int} (hst:StV n st) {i:Nat} (hi:i<n.Elements.length):∃ d,st[i]? = some d∧0≤d∧d≤1000000000000000:=by
 have hl:=hst.len
 obtain ⟨a,b⟩:=hst.bd (st[i]'(by omega)) (List.getElem_mem _)
 exact ⟨st[i]'(by omega),List.getElem?_eq_getElem _,a,b⟩
section
variable {N : Nat} {n : GNet} (hs : Small n) (hN : 1001 ≤ N) (hv : NetV n) {ws : List GStream} (hf : FedV n ws) {st : List Int} (hst : StV n st)
include hs hN hv hf hst in
theorem Zj9 (k:List (List GStream)×List GLost×List Int×Int→Option (Int⊕(Int×Int×List (List GStream)×List GLost×List Int))):∀ (m i:Nat) (o:List (List GStream)) (ls:List GLost) (ss:List Int) (y:Int),(n.Elements.drop i).length<m→i≤n.Elements.length→InvT n ws i o ls→ss.length=i→0≤y→y≤1000000 * i →
  Qdg N n st ws k m i (o++List.replicate (n.Elements.length - i) []) (ls++List.replicate (n.Elements.length - i) ⟨0,0,0,0⟩) (ss++st.drop i) y =
  Q4w (Qhn n.Table ((n.Elements.drop i).zip (st.drop i)) (ws.drop (wcn n i)) o ls ss y) (fun a=>some (.inl (a:Int))) k:=by
 intro m
 induction m with
 | zero=>intro i _ _ _ _ h; exact absurd h (Nat.not_lt_zero _)
 | succ m ih=>
  intro i o ls ss y h hi hI hss hy0 hy1
  have hsl:=Qpu hst
  have e0:=hs.e
  rw [Qdg]
  cases hd:n.Elements.drop i with
  | nil=>
   have:=Qcp hd
   have hi2:i=n.Elements.length:=by omega
   subst hi2
   rw [show decide ((n.Elements.length:Int)<(n.Elements.length:Int))=false by simp,cond_false,Nat.sub_self,show st.drop n.Elements.length=[] from List.drop_of_length_le (by omega)]
   simp [Qhn,Q4w]
  | cons x l=>
   obtain ⟨hg,hd',hlt⟩:=Qb8 hd
   obtain ⟨d,hgd,d0,d1⟩:=Zly hst hlt
   have hds:st.drop i=d::st.drop (i+1):=by
    have hi:=(List.getElem?_eq_some_iff.1 hgd).1
    rw [List.drop_eq_getElem_cons hi]
    rw [List.getElem?_eq_getElem hi] at hgd
    cases hgd; rfl
   obtain ⟨iv,it⟩:=Zfz hv hf hI hg
   have hx:=hs.x x (List.mem_of_getElem? hg)
   have hinl:(insE o (ws.drop (wcn n i)) x).length≤100:=by
    unfold insE
    split
    ·rw [List.length_take]; omega
    ·rw [List.length_map]; omega
   have hk:n.Elements.length - i=(n.Elements.length - (i+1))+1:=by omega
   have hwid:=Q7y N (hv.alone x (List.mem_of_getElem? hg)) d0 (show d≤9000000000000000000 by omega)
   simp only [show decide ((i:Int)<n.Elements.length)=true from by simpa using hlt,cond_true,Qck hg,Qck hgd,Option.bind_some,hwid,Int.toNat_natCast,hsl]
   have htot:Qfe N (insE o (ws.drop (wcn n i)) x)=some (totS (insE o (ws.drop (wcn n i)) x)):=by rw [Qzf (by omega) hN,Qq2 iv (by omega)]
   have hin:=Zjd hs hN hv hf hI hg (List.replicate (n.Elements.length - i) []) (ls++List.replicate (n.Elements.length - i) ⟨0,0,0,0⟩) (ss++st.drop i) y
   have lO:n.Elements.length=(o++List.replicate (n.Elements.length - i) []).length:=by simp [hI.lo]; omega
   have lL:n.Elements.length=(ls++List.replicate (n.Elements.length - i) (⟨0,0,0,0⟩:GLost)).length:=by simp [hI.ll]; omega
   have lS:n.Elements.length=(ss++st.drop i).length:=by simp [hss,hsl]; omega
   rw [hds,List.zip_cons_cons,Qhn]
   by_cases hm:(totS (insE o (ws.drop (wcn n i)) x)).Mass>widI x d
   ·rw [if_pos hm,← hds,Q90 lO lL lS (by omega) hin htot,hI.lo]
    rfl
   ·rw [if_neg hm]
    have hLs:(ls++List.replicate (n.Elements.length - i) (⟨0,0,0,0⟩:GLost))[i]? = some ⟨0,0,0,0⟩:=by
     rw [List.getElem?_append_right (by rw [hI.ll]; exact Nat.le_refl _),hI.ll,Nat.sub_self,hk,List.replicate_succ]; rfl
    have hSs:(ss++st.drop i)[i]? = some d:=by
     rw [List.getElem?_append_right (by omega),hss,Nat.sub_self,hds]; rfl
    have hO:∃ r,(o++List.replicate (n.Elements.length - i) ([]:List GStream))[i]? = some r:=⟨[],by
     rw [List.getElem?_append_right (by rw [hI.lo]; exact Nat.le_refl _),hI.lo,Nat.sub_self,hk,List.replicate_succ]; rfl⟩
    have hel:=Zj8 (N:=N) hN hv (by have:=hs.t; omega) hg it (D:=n.Elements.length) hlt hLs hSs d0 (by omega) hO hy0 (by omega) (by rw [← lL]; exact hlt) lO lL lS (w:=widI x d) (by omega) hin htot
    have hK:=Qvp hv hf hI hg
    have hI2:=Qvo hv hf hI hg hK
    rw [← hds,hel,Option.bind_some,Sum.elim_inl]
    dsimp only
    have hSet:(ss++st.drop i).set i (d+(actE n.Table x (totS (insE o (ws.drop (wcn n i)) x))).2.1.Scale)=(ss++[d+(actE n.Table x (totS (insE o (ws.drop (wcn n i)) x))).2.1.Scale])++st.drop (i+1):=by
     rw [hds,List.set_append_right _ _ (by omega),hss,Nat.sub_self,List.set_cons_zero,List.append_assoc]
     rfl
    rw [hSet,hk,Q8d hI.lo,Q8d hI.ll,Qbd (x:=(i:Int)+1) (by omega) (by omega),show (i:Int)+1=((i+1:Nat):Int) by omega]
    have t0:=hK.t0
    have t1:=hK.t1
    have hih:=ih (i+1) _ _ (ss++[d+(actE n.Table x (totS (insE o (ws.drop (wcn n i)) x))).2.1.Scale]) (y+(actE n.Table x (totS (insE o (ws.drop (wcn n i)) x))).2.2) (by rw [hd']; rw [hd] at h; simp at h; omega) hlt hI2 (by simp [hss]) (by omega) (by omega)
    rw [hd'] at hih
    refine hih.trans ?_
    have hw:ws.drop (wcn n (i+1))=if x.Kind=1 then (ws.drop (wcn n i)).drop 1 else ws.drop (wcn n i):=by
     rw [Qk5 hg]
     split
     ·rw [List.drop_drop]
     ·rfl
    rw [hw]
def Qsv (n:GNet) (st:List Int) (ws:List GStream):Nat⊕Qv5:=Qhn n.Table (n.Elements.zip st) ws [] [] [] 0
include hs hN hv hf hst in
theorem Znu:Qfx N n st ws=Q4w (Qsv n st ws) (fun a=>some (.inl (a:Int))) (fun r=>some (.inr (-1,r.2.2.2,r.1,r.2.1,r.2.2.1))):=by
 have e0:=hs.e
 have hsl:=Qpu hst
 have hl1:=hv.len.1
 have hne:(!st.isEmpty)=true:=by
  cases st with
  | nil=>simp at hsl; omega
  | cons=>rfl
 unfold Qfx Qe4
 simp only [chk,hne,Qbp]
 rw [show (decide (0≤(n.Elements.length:Int))&&decide (24 * (n.Elements.length:Int)≤281474976710656)&&decide ((n.Elements.length:Int)≤9223372036854775807))=true by simp; omega,show (decide (0≤(n.Elements.length:Int))&&decide (32 * (n.Elements.length:Int)≤281474976710656)&&decide ((n.Elements.length:Int)≤9223372036854775807))=true by simp; omega,show decide ((0+st.length) * 8≤140737488355328)=true by simp; omega]
 simp only [cond_true,Option.bind_some,Int.toNat_natCast]
 have:=Zj9 hs hN hv hf hst (fun x=>match x with | (y12,y13,y14,y15)=>some (.inr (-1,y15,y12,y13,y14))) N 0 [] [] [] 0 (by simp; omega) (Nat.zero_le _) (Qrw n ws) rfl (Int.le_refl _) (by simp)
 simp only [List.nil_append,Nat.sub_zero,List.drop_zero,show wcn n 0=0 from rfl] at this
 refine this.trans ?_
 unfold Qsv
 rfl
end
def fedI (n:GNet) (ws:List GStream):Int:=
 bif decide (ws.length=wcn n n.Elements.length)&&ws.all strB then (if (totS ws).Mass>1000000 then 3 else if (totS ws).Gas>1000000000 then 3 else 0) else 1
theorem Zed (N:Nat) (s:GStream):Qfp N s=some (bif strB s then 0 else 1):=by
 unfold Qfp
 rw [Qu0]
 cases strB s<;>rfl
theorem Zme {N:Nat} {n:GNet} (hs:Small n) (hN:1001≤N) {ws:List GStream} (hl:ws.length≤1000):Qh0 N n ws=some (fedI n ws):=by
 have hc:Qbf N ws=some (ws.any fun x=>!strB x):=by
  unfold Qbf Qb0 Qbp
  refine Qhj (F:=Qa3 N ws fun _=>some (-1)) (k:=fun _=>some (-1)) (q:=Qdd N) (fun n y=>rfl) (fun x=>?_) rfl (by omega) (by omega)
  simp only [Qdd,Qhz,Zed,Option.bind_some]
  cases strB x<;>rfl
 have e0:=hs.e
 have hof:(ofL 1 0 n.Elements).length=wcn n n.Elements.length:=by rw [Qrp]; unfold wcn; rw [List.take_length]
 unfold Qh0 Qev fedI
 simp only [Qbp,Zfv hs hN 1,Option.bind_some,hc,Qsq,hof,Qzf hl hN]
 by_cases h1:ws.length=wcn n n.Elements.length
 ·rw [decide_eq_true h1,show ((ws.length:Int) != (wcn n n.Elements.length:Int))=false by rw [bne_eq_false_iff_eq]; omega]
  cases ha:ws.all strB with
  | false=>rfl
  | true=>
   have hall:∀ s ∈ ws,StrV s:=fun s h=>Ql6.1 (List.all_eq_true.1 ha s h)
   rw [Qq2 hall hl]
   simp only [cond_false,Bool.not_true,Bool.true_and,cond_true]
   by_cases h2:(totS ws).Mass>1000000
   ·rw [decide_eq_true h2,if_pos h2]; rfl
   ·rw [decide_eq_false h2,if_neg h2]
    by_cases h3:(totS ws).Gas>1000000000
    ·rw [decide_eq_true h3,if_pos h3]; rfl
    ·rw [decide_eq_false h3,if_neg h3]; rfl
 ·rw [decide_eq_false h1,show ((ws.length:Int) != (wcn n n.Elements.length:Int))=true by rw [bne_iff_ne]; omega]; rfl
theorem Zji {n:GNet} {ws:List GStream} (h:fedI n ws=0):FedV n ws:=by
 unfold fedI at h
 cases hb:decide (ws.length=wcn n n.Elements.length)&&ws.all strB with
 | false=>rw [hb] at h; cases h
 | true=>
  rw [hb,cond_true] at h
  simp only [Bool.and_eq_true,decide_eq_true_eq] at hb
  by_cases h2:(totS ws).Mass>1000000
  ·rw [if_pos h2] at h; cases h
  ·rw [if_neg h2] at h
   by_cases h3:(totS ws).Gas>1000000000
   ·rw [if_pos h3] at h; cases h
   ·exact ⟨hb.1,fun s hs=>Ql6.1 (List.all_eq_true.1 hb.2 s hs),by omega,by omega⟩
def Qiz (n:GNet) (st:List Int) (ws:List GStream):Int:=bif netB n&&stB n st then fedI n ws else 1
theorem Zcb {N:Nat} {n:GNet} (hs:Small n) (hN:1001≤N) {st:List Int} {ws:List GStream} (hl:ws.length≤1000) (hl2:st.length≤1000):Qjy N n st ws=some (Qiz n st ws):=by
 unfold Qjy Qiz
 rw [Q79 hs hN hl2,Option.bind_some]
 cases netB n&&stB n st with
 | false=>rfl
 | true=>simp only [cond_true,show ((0:Int) != 0)=false from rfl,cond_false,Zme hs hN hl,Option.bind_some]
def Zls:GTick:=⟨[],[],[]⟩
def doA (n:GNet) (st:List Int) (ws:List GStream):GTick×Int×Int:=
 if Qiz n st ws=0 then Q4w (Qsv n st ws) (fun a=>(Zls,(a:Int),11)) (fun r=>(⟨r.1,r.2.1,r.2.2.1⟩,0,0)) else (Zls,0,Qiz n st ws)
theorem Qn0 {n:GNet} {st:List Int} {ws:List GStream} (h:Qiz n st ws=0):NetV n∧StV n st∧FedV n ws∧netB n=true:=by
 unfold Qiz at h
 cases hb:netB n&&stB n st with
 | false=>rw [hb] at h; cases h
 | true=>
  rw [hb] at h
  rw [Bool.and_eq_true] at hb
  exact ⟨Zi4 hb.1,Zlz hb.2,Zji h,hb.1⟩
structure TickV (n:GNet) (st:List Int) (ws:List GStream) (r:Qv5):Prop where
 inv:InvT n ws n.Elements.length r.1 r.2.1
 ss:r.2.2.1=List.zipWith (fun (d:Int) (l:GLost)=>d+l.Scale) st r.2.1
 y0:0≤r.2.2.2
theorem Q12 {n:GNet} (hv:NetV n) {ws:List GStream} (hf:FedV n ws) {st:List Int} (hst:StV n st):∀ (l:List (GElement×Int)) (i:Nat) (o:List (List GStream)) (ls:List GLost) (ss:List Int) (y:Int) (r:Qv5),
  l=(n.Elements.drop i).zip (st.drop i)→i≤n.Elements.length→InvT n ws i o ls→ss=List.zipWith (fun (d:Int) (q:GLost)=>d+q.Scale) (st.take i) ls→0≤y→Qhn n.Table l (ws.drop (wcn n i)) o ls ss y=.inr r→TickV n st ws r
 | [],i,o,ls,ss,y,r,hl,hi,hI,hss,hy,h=>by
  have hsl:=Qpu hst
  have hlen:(n.Elements.drop i).length=0:=by
   have:=congrArg List.length hl
   rw [List.length_zip,List.length_drop,List.length_drop] at this
   simp at this
   rw [List.length_drop]; omega
  rw [List.length_drop] at hlen
  have e:i=n.Elements.length:=by omega
  rw [Qhn] at h
  cases h
  subst e
  exact ⟨hI,by dsimp only; rw [hss,List.take_of_length_le (by omega)],hy⟩
 | (x,d)::l,i,o,ls,ss,y,r,hl,hi,hI,hss,hy,h=>by
  have hsl:=Qpu hst
  have hlt:i<n.Elements.length:=by
   apply Decidable.byContradiction
   intro hc
   rw [List.drop_of_length_le (by omega)] at hl
   simp at hl
  have hdE:n.Elements.drop i=n.Elements[i]::n.Elements.drop (i+1):=List.drop_eq_getElem_cons hlt
  have hdS:st.drop i=st[i]'(by omega)::st.drop (i+1):=List.drop_eq_getElem_cons (by omega)
  rw [hdE,hdS,List.zip_cons_cons,List.cons.injEq,Prod.mk.injEq] at hl
  obtain ⟨⟨hx,hd⟩,hl⟩:=hl
  have hg:n.Elements[i]? = some x:=by rw [hx]; exact List.getElem?_eq_getElem hlt
  have hgd:st[i]? = some d:=by rw [hd]; exact List.getElem?_eq_getElem _
  rw [Qhn] at h
  by_cases hm:(totS (insE o (ws.drop (wcn n i)) x)).Mass>widI x d
  ·rw [if_pos hm] at h; cases h
  ·rw [if_neg hm] at h
   have hK:=Qvp hv hf hI hg
   have hI2:=Qvo hv hf hI hg hK
   have hw:ws.drop (wcn n (i+1))=if x.Kind=1 then (ws.drop (wcn n i)).drop 1 else ws.drop (wcn n i):=by
    rw [Qk5 hg]
    split
    ·rw [List.drop_drop]
    ·rfl
   rw [← hw] at h
   refine Q12 hv hf hst l (i+1) _ _ _ _ r hl hlt hI2 ?_ (by have:=hK.t0; omega) h
   rw [Qka hgd,hss,List.zipWith_append (by rw [List.length_take,hI.ll]; omega)]
   rfl
theorem Q14 {n:GNet} (hv:NetV n) {ws:List GStream} (hf:FedV n ws) {st:List Int} (hst:StV n st) {r:Qv5} (h:Qsv n st ws=.inr r):TickV n st ws r:=
 Q12 hv hf hst _ 0 [] [] [] 0 r (by simp) (Nat.zero_le _) (Qrw n ws) (by simp) (Int.le_refl _) h
theorem Zf0 {N:Nat} {n:GNet} (hs:Small n) (hN:1001≤N) {st:List Int} {ws:List GStream} (hl:ws.length≤1000) (hl2:st.length≤1000):Qh1 N n st ws=some (doA n st ws):=by
 unfold Qh1 doA
 rw [Zcb hs hN hl hl2,Option.bind_some]
 by_cases hr:Qiz n st ws=0
 ·obtain ⟨hv,hst,hf,_⟩:=Qn0 hr
  rw [if_pos hr,hr,show ((0:Int) != 0)=false from rfl,cond_false,Znu hs hN hv hf hst]
  cases ht:Qsv n st ws with
  | inl a=>
   simp only [Q4w,Option.bind_some,Sum.elim_inl,decide_eq_true (show (a:Int)≥0 by omega),cond_true]
   rfl
  | inr r=>
   obtain ⟨⟨h1,h2,_⟩,h3,_⟩:=Q14 hv hf hst ht
   have hsl:=Qpu hst
   have h4:r.2.2.1.length=n.Elements.length:=by rw [h3,List.length_zipWith]; omega
   simp only [Q4w,Option.bind_some,Sum.elim_inr,show decide ((-1:Int)≥0)=false from rfl,cond_false,chk,Int.toNat_natCast]
   rw [show decide (n.Elements.length≤r.1.length)=true by simp; omega,show decide (n.Elements.length≤r.2.1.length)=true by simp; omega,show decide (st.length≤r.2.2.1.length)=true by simp; omega,List.take_of_length_le (by omega),List.take_of_length_le (by omega),List.take_of_length_le (by omega)]
   rfl
 ·rw [if_neg hr,show (Qiz n st ws != 0)=true by simpa using hr,cond_true]
  rfl
end Go.Proofs.YtmbhnllcfmiajaaGreat
