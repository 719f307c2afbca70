/-
  Plain laws on sums of streams and on the parts of one. No conditions but validity.
-/
import Derived.Test.YtmbhnllcfmiajaaGreatPSb6
namespace Go.Proofs.YtmbhnllcfmiajaaGreat
open Go.RowKit
def totS (l:List GStream):GStream:=⟨(l.map fun s=>s.Mass).sum,(l.map fun s=>s.Heat).sum,(l.map fun s=>s.Silica).sum,(l.map fun s=>s.Gas).sum⟩
def totW (l:List GStream):GStream:=⟨w64 (totS l).Mass,w64 (totS l).Heat,w64 (totS l).Silica,w64 (totS l).Gas⟩
theorem Q73 (N:Nat) (l:List GStream) (k:Int×Int×Int×Int→Option GStream) (hl:l.length≤1000000):∀ (n i:Nat) (a b c d:Int),(l.drop i).length<n →
  Qeh N l k n i (w64 a) (w64 b) (w64 c) (w64 d)=k (w64 (a+(totS (l.drop i)).Mass),w64 (b+(totS (l.drop i)).Heat),w64 (c+(totS (l.drop i)).Silica),w64 (d+(totS (l.drop i)).Gas)):=by
 intro n
 induction n with
 | zero=>intro i _ _ _ _ h; exact absurd h (Nat.not_lt_zero _)
 | succ n ih=>
  intro i a b c d h
  rw [Qeh]
  cases hd:l.drop i with
  | nil=>
   have:=Qcp hd
   simp [show ¬ ((i:Int)<l.length) from by omega,totS]
  | cons x q=>
   obtain ⟨hg,hd',hlt⟩:=Qb8 hd
   simp only [show decide ((i:Int)<l.length)=true from by simpa using hlt,cond_true,Qck hg,Option.bind_some,Qlp]
   rw [Qbd (x:=(i:Int)+1) (by omega) (by omega),show (i:Int)+1=((i+1:Nat):Int) by omega,ih (i+1) _ _ _ _ (by rw [hd']; rw [hd] at h; simp at h; omega),hd']
   simp only [totS,List.map_cons,List.sum_cons,Int.add_assoc]
theorem Quz:w64 0=0:=by decide
theorem Qzf {N:Nat} {l:List GStream} (hl:l.length≤1000) (hN:1001≤N):Qfe N l=some (totW l):=by
 unfold Qfe
 simp only [Qbp]
 have:=Q73 N l (fun x=>match x with | (y1,y2,y3,y4)=>some (⟨y1,y2,y3,y4⟩:GStream)) (by omega) N 0 0 0 0 0 (by simp; omega)
 rw [Quz,List.drop_zero] at this
 refine this.trans ?_
 simp [totW]
theorem Q76 (N:Nat) (l:List GStream) (k:Int×Int×Int×Int→Option GStream) (hl:l.length≤1000000):∀ (n i:Nat) (a b c d:Int),(l.drop i).length<n →
  Qew N l k n i (w64 a) (w64 b) (w64 c) (w64 d)=k (w64 (a+(totS (l.drop i)).Mass),w64 (b+(totS (l.drop i)).Heat),w64 (c+(totS (l.drop i)).Silica),w64 (d+(totS (l.drop i)).Gas)):=by
 intro n
 induction n with
 | zero=>intro i _ _ _ _ h; exact absurd h (Nat.not_lt_zero _)
 | succ n ih=>
  intro i a b c d h
  rw [Qew]
  cases hd:l.drop i with
  | nil=>
   have:=Qcp hd
   simp [show ¬ ((i:Int)<l.length) from by omega,totS]
  | cons x q=>
   obtain ⟨hg,hd',hlt⟩:=Qb8 hd
   simp only [show decide ((i:Int)<l.length)=true from by simpa using hlt,cond_true,Qck hg,Qid,Qcl,Option.bind_some,Qlp]
   rw [Qbd (x:=(i:Int)+1) (by omega) (by omega),show (i:Int)+1=((i+1:Nat):Int) by omega,ih (i+1) _ _ _ _ (by rw [hd']; rw [hd] at h; simp at h; omega),hd']
   simp only [totS,List.map_cons,List.sum_cons,Int.add_assoc]
theorem Zik {N:Nat} {l:List GStream} (hl:l.length≤1000) (hN:1001≤N):Qjm N l=some (totW l):=by
 unfold Qjm
 simp only [Qbp]
 have:=Q76 N l (fun x=>match x with | (y1,y2,y3,y4)=>some (⟨y1,y2,y3,y4⟩:GStream)) (by omega) N 0 0 0 0 0 (by simp; omega)
 rw [Quz,List.drop_zero] at this
 refine this.trans ?_
 simp [totW]
theorem Qlq (s:GStream) (l:List GStream):totS (s::l)=⟨s.Mass+(totS l).Mass,s.Heat+(totS l).Heat,s.Silica+(totS l).Silica,s.Gas+(totS l).Gas⟩:=by simp [totS]
theorem Qj9 (s:GStream):totS [s]=s:=by simp [totS]
theorem Qze (l m:List GStream):totS (l++m)=⟨(totS l).Mass+(totS m).Mass,(totS l).Heat+(totS m).Heat,(totS l).Silica+(totS m).Silica,(totS l).Gas+(totS m).Gas⟩:=by simp [totS]
structure TotV (t:GStream) (n:Nat):Prop where
 m0:0≤t.Mass
 m1:t.Mass≤1000000 * n
 h0:0≤t.Heat
 h1:t.Heat≤4000 * t.Mass
 s0:0≤t.Silica
 s1:t.Silica≤10000 * t.Mass
 g0:0≤t.Gas
 g1:t.Gas≤1000000000 * n
theorem Qo0:∀ {l:List GStream},(∀ s ∈ l,StrV s)→TotV (totS l) l.length
 | [],_=>⟨by decide,by decide,by decide,by decide,by decide,by decide,by decide,by decide⟩
 | s::l,h=>by
  obtain ⟨a1,a2,a3,a4,a5,a6,a7,a8⟩:=Qo0 fun x hx=>h x (List.mem_cons_of_mem s hx)
  obtain ⟨b1,b2,b3,b4,b5,b6,b7,b8⟩:=h s List.mem_cons_self
  rw [Qlq]
  refine ⟨?_,?_,?_,?_,?_,?_,?_,?_⟩<;>simp only [List.length_cons]<;>omega
theorem Qq2 {l:List GStream} (h:∀ s ∈ l,StrV s) (hl:l.length≤1000):totW l=totS l:=by
 obtain ⟨a1,a2,a3,a4,a5,a6,a7,a8⟩:=Qo0 h
 have:(l.length:Int)≤1000:=by omega
 unfold totW
 rw [Qbd (x:=(totS l).Mass) (by omega) (by omega),Qbd (x:=(totS l).Heat) (by omega) (by omega),Qbd (x:=(totS l).Silica) (by omega) (by omega),Qbd (x:=(totS l).Gas) (by omega) (by omega)]
theorem Zby {l:List GStream} (h:∀ s ∈ l,StrV s) (hm:(totS l).Mass≤1000000) (hg:(totS l).Gas≤1000000000):StrV (totS l):=by
 obtain ⟨a1,a2,a3,a4,a5,a6,a7,a8⟩:=Qo0 h
 exact ⟨a1,hm,a3,a4,a5,a6,a7,hg⟩
def mx (s:GStream):Int:=if s.Mass>1 then s.Mass else 1
def Qzq (s:GStream) (m:Int):GStream:=⟨m,s.Heat * m / mx s,s.Silica * m / mx s,s.Gas * m / mx s⟩
def Qgu (s:GStream) (ws:List Int):List GStream:=(Qh2 s.Mass ws).map (Qzq s)
def Qkj (s:GStream) (ws:List Int):GLoss:=⟨s.Heat - (totS (Qgu s ws)).Heat,s.Silica - (totS (Qgu s ws)).Silica,s.Gas - (totS (Qgu s ws)).Gas⟩
theorem Qxi (s:GStream):0<mx s:=by unfold mx; split<;>omega
theorem Zi7 {s:GStream} (h:0≤s.Mass):s.Mass≤mx s:=by unfold mx; split<;>omega
theorem Q8t {n m c:Int} {s:GStream} (hM:0≤s.Mass) (hm:0≤m) (hn:n≤c * s.Mass) (hc:0≤c):n * m / mx s≤c * m:=by
 have h1:n * m≤c * s.Mass * m:=Int.mul_le_mul_of_nonneg_right hn hm
 have h2:c * s.Mass * m≤c * m * mx s:=by
  rw [Int.mul_assoc,Int.mul_assoc,Int.mul_comm s.Mass m]
  exact Int.mul_le_mul_of_nonneg_left (Int.mul_le_mul_of_nonneg_left (Zi7 hM) hm) hc
 exact Int.ediv_le_of_le_mul (Qxi s) (Int.le_trans h1 h2)
theorem Qvi {n m:Int} {s:GStream} (hM:0≤s.Mass) (hm:0≤m) (hmM:m≤s.Mass) (hn:0≤n):0≤n * m / mx s∧n * m / mx s≤n:=by
 have hp:=Qxi s
 refine ⟨Int.ediv_nonneg (Int.mul_nonneg hn hm) (by omega),Int.ediv_le_of_le_mul hp ?_⟩
 have:=Zi7 hM
 exact Int.mul_le_mul_of_nonneg_left (by omega) hn
theorem Zcd {s:GStream} (hs:StrV s) {m:Int} (h0:0≤m) (h1:m≤s.Mass):StrV (Qzq s m):=by
 obtain ⟨a1,a2,a3,a4,a5,a6,a7,a8⟩:=hs
 have b1:=Qvi a1 h0 h1 a3
 have b2:=Q8t a1 h0 a4 (by omega)
 have b3:=Qvi a1 h0 h1 a5
 have b4:=Q8t a1 h0 a6 (by omega)
 have b5:=Qvi a1 h0 h1 a7
 exact ⟨h0,by dsimp only [Qzq]; omega,b1.1,b2,b3.1,b4,b5.1,by dsimp only [Qzq]; omega⟩
theorem Q2a {n:Int} {s:GStream} (hn:0≤n):∀ (l:List Int),(∀ m ∈ l,0≤m)→mx s * (l.map fun m=>n * m / mx s).sum≤n * l.sum
 | [],_=>by simp
 | m::l,h=>by
  have h1:=Q2a (n:=n) (s:=s) hn l fun x hx=>h x (List.mem_cons_of_mem _ hx)
  have hp:=Qxi s
  have h2:=Int.mul_ediv_self_le (x:=n * m) (k:=mx s) (by omega)
  simp only [List.map_cons,List.sum_cons,Int.mul_add]
  omega
theorem Qvh {n:Int} {s:GStream} (hn:0≤n) (hM:0≤s.Mass) {l:List Int} (h:∀ m ∈ l,0≤m) (hl:l.sum=s.Mass):(l.map fun m=>n * m / mx s).sum≤n:=by
 have h1:=Q2a (s:=s) hn l h
 have hp:=Qxi s
 rw [hl] at h1
 have h2:n * s.Mass≤n * mx s:=Int.mul_le_mul_of_nonneg_left (Zi7 hM) hn
 rw [Int.mul_comm n (mx s)] at h2
 exact Int.le_of_mul_le_mul_left (Int.le_trans h1 h2) hp
theorem Q35 (s:GStream) (l:List Int):totS (l.map (Qzq s))=⟨l.sum,(l.map fun m=>s.Heat * m / mx s).sum,(l.map fun m=>s.Silica * m / mx s).sum,(l.map fun m=>s.Gas * m / mx s).sum⟩:=by
 simp [totS,Qzq,Function.comp_def]
structure KeptP (s:GStream) (o:List GStream) (l:GLoss):Prop where
 v:∀ x ∈ o,StrV x
 m:(totS o).Mass=s.Mass
 h:(totS o).Heat+l.Heat=s.Heat
 q:(totS o).Silica+l.Silica=s.Silica
 g:(totS o).Gas+l.Gas=s.Gas
 h0:0≤l.Heat
 q0:0≤l.Silica
 g0:0≤l.Gas
theorem Qkw {s:GStream} (hs:StrV s) {ws:List Int} (h:WtsV ws):KeptP s (Qgu s ws) (Qkj s ws):=by
 have hs':=hs
 obtain ⟨a1,a2,a3,a4,a5,a6,a7,a8⟩:=hs'
 have hsum:=Qrs h a1 a2
 have hbd:=Qtp h a1 a2
 have hnn:∀ m ∈ Qh2 s.Mass ws,0≤m:=fun m hm=>(hbd m hm).1
 have e:totS (Qgu s ws)=_:=Q35 s (Qh2 s.Mass ws)
 have t1:=Qvh (n:=s.Heat) (s:=s) a3 a1 hnn hsum
 have t2:=Qvh (n:=s.Silica) (s:=s) a5 a1 hnn hsum
 have t3:=Qvh (n:=s.Gas) (s:=s) a7 a1 hnn hsum
 refine ⟨fun x hx=>?_,?_,?_,?_,?_,?_,?_,?_⟩
 ·obtain ⟨m,hm,rfl⟩:=List.mem_map.1 hx
  exact Zcd hs (hbd m hm).1 (hbd m hm).2
 ·rw [e]; exact hsum
 all_goals (simp only [Qkj,e]; omega)
section
variable {N : Nat} {s : GStream} {ws : List Int} (hs : StrV s) (h : WtsV ws) (hN : 1001 ≤ N)
include hs in
theorem Q8w {n m:Int} (hn:0≤n) (hn':n≤10000000000) (h0:0≤m) (h1:m≤s.Mass) (a b c:Int):Qex N n m s.Mass a b c=some (n * m / mx s):=by
 have hM:=hs.m1
 have hM0:=hs.m0
 have hp:=bdp hn hn' h0 (show m≤1000000 by omega) (by omega)
 have hb:=Qvi hM0 h0 h1 hn
 have hx:=Qxi s
 unfold Qex
 show chk (mx s != 0) ((some (w64 ((w64 (n * m)).tdiv (mx s)))).bind fun x2=>some x2)=_
 rw [show (mx s != 0)=true by rw [bne_iff_ne]; omega,Qbd (x:=n * m) (by omega) (by omega),Int.tdiv_eq_ediv_of_nonneg hp.1,Qbd (by omega) (by omega)]
 rfl
include hs in
theorem Q4j (k:List GStream→Option (List GStream×GLoss×Int)) (l:List Int) (hl:l.length≤20) (hb:∀ m ∈ l,0≤m∧m≤s.Mass):∀ (n i:Nat) (acc:List GStream),(l.drop i).length<n→acc.length=i →
  Qdx N s k l n acc i=k (acc++(l.drop i).map (Qzq s)):=by
 intro n
 induction n with
 | zero=>intro i _ h; exact absurd h (Nat.not_lt_zero _)
 | succ n ih=>
  intro i acc h ha
  rw [Qdx]
  cases hd:l.drop i with
  | nil=>
   have:=Qcp hd
   simp [show ¬ ((i:Int)<l.length) from by omega]
  | cons m q=>
   obtain ⟨hg,hd',hlt⟩:=Qb8 hd
   obtain ⟨m0,m1⟩:=hb m (List.mem_of_getElem? hg)
   have a1:=hs.m1
   simp only [show decide ((i:Int)<l.length)=true from by simpa using hlt,cond_true,Qck hg,Option.bind_some,Q8w (N:=N) hs hs.h0 (by have:=hs.h1; omega) m0 m1,Q8w (N:=N) hs hs.s0 (by have:=hs.s1; omega) m0 m1,Q8w (N:=N) hs hs.g0 (by have:=hs.g1; omega) m0 m1,chk]
   have hc:decide ((acc.length+[(⟨m,s.Heat * m / mx s,s.Silica * m / mx s,s.Gas * m / mx s⟩:GStream)].length) * 32≤140737488355328)=true:=by simp; omega
   rw [hc,cond_true,Qbd (x:=(i:Int)+1) (by omega) (by omega),show (i:Int)+1=((i+1:Nat):Int) by omega,
    ih (i+1) _ (by rw [hd']; rw [hd] at h; simp at h; omega) (by simp [ha]),hd',List.append_assoc]
   rfl
include h hN in
theorem Q7x:Qgh N ws=some true∧Qch N ws=some true:=by
 have hl:=h.l2
 have hc:Qct N ws=some (ws.any fun x=>!btw x 0 1000):=by
  unfold Qct Qd0 Qbp
  refine Qhj (F:=Qb3 N ws fun _=>some (-1)) (k:=fun _=>some (-1)) (q:=Qfo N) (fun n y=>rfl) (fun x=>?_) rfl (by omega) (by omega)
  simp only [Qfo,Qif,Qkm,Option.bind_some]
 constructor
 ·unfold Qgh
  rw [hc,Option.bind_some,Qsq]
  congr 1
  exact List.all_eq_true.2 fun x hx=>Qeq.2 (h.w x hx)
 ·have:Qch N ws=some (ws.any fun x=>decide (x>0)):=by
   unfold Qch Qdz Qbp
   exact Qhj (F:=Qb2 N ws fun _=>some (-1)) (k:=fun _=>some (-1)) (q:=Qie N) (fun n y=>rfl) (fun x=>rfl) rfl (by omega) (by omega)
  rw [this]
  congr 1
  obtain ⟨x,hx,hp⟩:=h.some
  exact List.any_eq_true.2 ⟨x,hx,by simpa using hp⟩
include hs h hN in
theorem Zb7:Qil N s ws=some (Qgu s ws,Qkj s ws,0):=by
 have hl:=h.l2
 obtain ⟨w1,w2⟩:=Q7x h hN
 have hK:=Qkw hs h
 have hlen:(Qgu s ws).length=ws.length:=by unfold Qgu; rw [List.length_map,Qgv]
 unfold Qil
 simp only [Qbp,Qu0,Ql6.2 hs,Option.bind_some,Bool.not_true,cond_false,w1,w2,show decide ((ws.length:Int)>20)=false from by simp; omega,Q86 h hs.m0 hs.m1 hN]
 refine (Q4j hs _ (Qh2 s.Mass ws) (by rw [Qgv]; exact hl) (Qtp h hs.m0 hs.m1) N 0 [] (by rw [List.drop_zero,Qgv]; omega) rfl).trans ?_
 rw [List.drop_zero,List.nil_append]
 show (Qjm N (Qgu s ws)).bind _=_
 rw [Zik (by omega) hN,Option.bind_some,Qq2 hK.v (by omega)]
 obtain ⟨_,k1,k2,k3,k4,k5,k6,k7⟩:=hK
 have g1:=hs.h1
 have g2:=hs.s1
 have g3:=hs.g1
 have g4:=hs.m1
 have v:=Qo0 (Qkw hs h).v
 have:=v.h0
 have:=v.s0
 have:=v.g0
 unfold Qkj at *
 dsimp only at *
 rw [Qbd (x:=s.Heat - _) (by omega) (by omega),Qbd (x:=s.Silica - _) (by omega) (by omega),Qbd (x:=s.Gas - _) (by omega) (by omega)]
 rfl
end
end Go.Proofs.YtmbhnllcfmiajaaGreat
