/-
  Plain laws on a life: ticks upon ticks. No conditions but validity.
-/
import Derived.Test.YtmbhnllcfmiajaaGreatPFt6
namespace Go.Proofs.YtmbhnllcfmiajaaGreat
open Go.RowKit
theorem Qt0 {α:Type} (f:α→Int):∀ (l:List α),(∀ x ∈ l,0≤f x)→∀ x ∈ l,f x≤(l.map f).sum
 | [],_,x,h=>by simp at h
 | y::l,h,x,hx=>by
  have h1:=Qfz f l fun z hz=>h z (List.mem_cons_of_mem y hz)
  have h2:=h y List.mem_cons_self
  rw [List.map_cons,List.sum_cons]
  rcases List.mem_cons.1 hx with rfl | hx
  ·omega
  ·have:=Qt0 f l (fun z hz=>h z (List.mem_cons_of_mem y hz)) x hx
   omega
structure StT (n:GNet) (st:List Int) (t:Nat):Prop where
 len:st.length=n.Elements.length
 bd:∀ d ∈ st,0≤d∧d≤1000000000000+10000000000 * (t:Int)
theorem StT.v {n:GNet} {st:List Int} {t:Nat} (h:StT n st t) (ht:t≤1000):StV n st:=
 ⟨h.len,fun d hd=>by have:=h.bd d hd; omega⟩
theorem Zjw {n:GNet} {st:List Int} (h:stB n st=true):StT n st 0:=by
 unfold stB at h
 simp only [Bool.and_eq_true,decide_eq_true_eq] at h
 refine ⟨h.1,fun d hd=>?_⟩
 have:=Qen.1 (List.all_eq_true.1 h.2 d hd)
 omega
theorem Quz {n:GNet} {ws:List GStream} (hf:FedV n ws) {st:List Int} {t:Nat} (hst:StT n st t) {r:Qyh} (h:TickV n st ws r):StT n r.2.2.1 (t+1):=by
 have hl:=hst.len
 have hll:=h.inv.ll
 obtain ⟨_,_,_,_,b4⟩:=Zbk h.inv hf
 refine ⟨by rw [h.ss,List.length_zipWith]; omega,fun d hd=>?_⟩
 rw [h.ss] at hd
 obtain ⟨i,hi,e⟩:=List.mem_iff_getElem.1 hd
 rw [List.length_zipWith] at hi
 rw [List.getElem_zipWith] at e
 have h1:=hst.bd _ (List.getElem_mem (show i<st.length by omega))
 have hm:=List.getElem_mem (show i<r.2.1.length by omega)
 have h2:=Qt0 (fun l:GLost=>l.Scale) r.2.1 (fun l q=>(h.inv.l0 l q).2.2.2) _ hm
 have h3:=(h.inv.l0 _ hm).2.2.2
 have h4:(Qs4 r.2.1).Scale=(r.2.1.map fun l=>l.Scale).sum:=rfl
 rw [← h4] at h2
 omega
theorem Q18 {n:GNet} {st:List Int} {ws:List GStream} (h:Qgn n st ws=0):StT n st 0:=by
 unfold Qgn at h
 cases hb:netB n&&stB n st with
 | false=>rw [hb] at h; cases h
 | true=>
  rw [Bool.and_eq_true] at hb
  exact Zjw hb.2
def Qmm (n:GNet) (ws:List GStream):Nat→List Int→Nat→Int×Int
 | 0,_,t=>((t:Int),-1)
 | m+1,st,t=>Qny (Qsz n st ws) (fun a=>((t:Int),(a:Int))) (fun r=>Qmm n ws m r.2.2.1 (t+1))
section
variable {N : Nat} {n : GNet} (hs : Small n) (hN : 1001 ≤ N) (hv : NetV n) {ws : List GStream} (hf : FedV n ws) {most : Nat} (hm : most ≤ 1000)
include hs hN hv hf hm
theorem Q78 (k:Int→Option (Int×Int×Int)) (hk:∀ y,k y=some (y,-1,0)):∀ (m fu t:Nat) (st:List Int),t+m=most→m<fu→StT n st t →
  Qea N n ws (most:Int) k fu st (t:Int)=some ((Qmm n ws m st t).1,(Qmm n ws m st t).2,0):=by
 intro m
 induction m with
 | zero=>
  intro fu t st ht hfu _
  obtain ⟨fu,rfl⟩:∃ g,fu=g+1:=⟨fu - 1,by omega⟩
  rw [Qea,decide_eq_false (show ¬ ((t:Int)<(most:Int)) by omega),cond_false,hk]
  rfl
 | succ m ih=>
  intro fu t st ht hfu hst
  obtain ⟨fu,rfl⟩:∃ g,fu=g+1:=⟨fu - 1,by omega⟩
  have hV:=hst.v (show t≤1000 by omega)
  have hsl:=hst.len
  rw [Qea,decide_eq_true (show (t:Int)<(most:Int) by omega),cond_true,Zj8 hs hN hv hf hV,Qmm]
  cases hT:Qsz n st ws with
  | inl a=>
   simp only [Qny,Option.bind_some,Sum.elim_inl]
   rw [decide_eq_true (show (a:Int)≥0 by omega),cond_true]
  | inr r=>
   have hR:=Qux hv hf hV hT
   have hn:=Quz hf hst hR
   have hnl:=hn.len
   simp only [Qny,Option.bind_some,Sum.elim_inr,show decide ((-1:Int)≥0)=false from rfl,cond_false,chk]
   rw [show decide (st.length≤r.2.2.1.length)=true by simp; omega,cond_true,List.take_of_length_le (by omega),Qbe (x:=(t:Int)+1) (by omega) (by omega),show (t:Int)+1=((t+1:Nat):Int) by omega]
   exact ih fu (t+1) _ (by omega) (by omega) hn
end
def lifA (n:GNet) (st:List Int) (ws:List GStream) (most:Int):Int×Int×Int:=
 if Qgn n st ws=0 then bif btw most 1 1000 then ((Qmm n ws most.toNat st 0).1,(Qmm n ws most.toNat st 0).2,0) else (0,0,2) else (0,0,Qgn n st ws)
theorem Zhw {N:Nat} {n:GNet} (hs:Small n) (hN:1001≤N) {st:List Int} {ws:List GStream} (hl:ws.length≤1000) (hl2:st.length≤1000) (most:Int):Qk6 N n st ws most=some (lifA n st ws most):=by
 unfold Qk6 lifA
 rw [Q19 hs hN hl hl2,Option.bind_some]
 by_cases hr:Qgn n st ws=0
 ·obtain ⟨hv,_,hf,_⟩:=Qoh hr
  rw [if_pos hr,hr,bne_self_eq_false,cond_false,Qia,Option.bind_some]
  cases hb:btw most 1 1000 with
  | false=>rfl
  | true=>
   have hb':=Qen.1 hb
   rw [Bool.not_true,cond_false,Qlp,cond_true]
   have:=Q78 hs hN hv hf (most:=most.toNat) (by omega) (fun y7=>some (y7,-1,0)) (fun _=>rfl) most.toNat N 0 st (by omega) (by omega) (Q18 hr)
   rw [show ((most.toNat:Nat):Int)=most by omega] at this
   exact this
 ·rw [if_neg hr,show (Qgn n st ws != 0)=true by simpa using hr,cond_true]
end Go.Proofs.YtmbhnllcfmiajaaGreat
