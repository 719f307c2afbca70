/-
  The texts PSc6, PN6, POpn, PE6, PTa6, PTb6, PTc6, X7, PRf6, PRs6, PSt6, PRd6, PKo6, PNet, PFt6, X14, PCa6, PEr6, PCb6, PCc6, PCd6, PCe6, PLf6, X15, PCf6 of the proof, one behind the other. No conditions.
-/
import Derived.Test.YtmbhnllcfmiajaaGreatG4
namespace Go.Proofs.YtmbhnllcfmiajaaGreat
open _root_.Go.Proofs.Tryz
open Go.RowKit
set_option maxRecDepth 100000
set_option maxHeartbeats 4000000
set_option synthInstance.maxSize 4000
set_option synthInstance.maxHeartbeats 400000
section
def totS (l:List Qaa):Qaa:=⟨(l.map fun s=>s.Mass).sum,(l.map fun s=>s.Heat).sum,(l.map fun s=>s.Silica).sum,(l.map fun s=>s.Gas).sum⟩
def totW (l:List Qaa):Qaa:=⟨w64 (totS l).Mass,w64 (totS l).Heat,w64 (totS l).Silica,w64 (totS l).Gas⟩
theorem Zb8 (N:Nat) (l:List Qaa) (k:Int×Int×Int×Int→Option Qaa) (hl:l.length≤1000000):∀(n i:Nat) (a b c d:Int),(l.drop i).length<n →
  Qfg N l k n i (w64 a) (w64 b) (w64 c) (w64 d)=k (w64 (a+(totS (l.drop i)).Mass),w64 (b+(totS (l.drop i)).Heat),w64 (c+(totS (l.drop i)).Silica),w64 (d+(totS (l.drop i)).Gas)):=by
 intro n
 induction n with
 |zero=>intro i _ _ _ _ h;cases h
 |succ n ih=>
  intro i a b c d h
  rw[Qfg]
  cases hd:l.drop i with
  |nil=>
   have:=Qbs hd
   simp[show ¬((i:Int)<l.length) from by omega,totS]
  |cons x q=>
   obtain⟨hg,hd',hlt⟩:=Qbg hd
   simp only[dlI hlt,cond_true,Qbu hg,Option.bind_some,Qoz]
   rw[w64S (i:=i) (by omega),ih (i+1) _ _ _ _ (dlt hd hd' h),hd']
   simp only[totS,List.map_cons,List.sum_cons,Int.add_assoc]
theorem Qy6:w64 0=0:=by decide
theorem Q3u {N:Nat}{l:List Qaa}(hl:l.length≤1000) (hN:1001≤N):Qgp N l=some (totW l):=by
 unfold Qgp
 simp only[Qbc]
 have:=Zb8 N l (fun x=>match x with |(y1,y2,y3,y4)=>some (⟨y1,y2,y3,y4⟩:Qaa)) (by omega) N 0 0 0 0 0 (by simp;omega)
 rw[Qy6,List.drop_zero] at this
 refine this.trans ?_
 simp[totW]
theorem Zcb (N:Nat) (l:List Qaa) (k:Int×Int×Int×Int→Option Qaa) (hl:l.length≤1000000):∀(n i:Nat) (a b c d:Int),(l.drop i).length<n →
  Qfw N l k n i (w64 a) (w64 b) (w64 c) (w64 d)=k (w64 (a+(totS (l.drop i)).Mass),w64 (b+(totS (l.drop i)).Heat),w64 (c+(totS (l.drop i)).Silica),w64 (d+(totS (l.drop i)).Gas)):=by
 intro n
 induction n with
 |zero=>intro i _ _ _ _ h;cases h
 |succ n ih=>
  intro i a b c d h
  rw[Qfw]
  cases hd:l.drop i with
  |nil=>
   have:=Qbs hd
   simp[show ¬((i:Int)<l.length) from by omega,totS]
  |cons x q=>
   obtain⟨hg,hd',hlt⟩:=Qbg hd
   simp only[dlI hlt,cond_true,Qbu hg,Qkr,Qcm,Option.bind_some,Qoz]
   rw[w64S (i:=i) (by omega),ih (i+1) _ _ _ _ (dlt hd hd' h),hd']
   simp only[totS,List.map_cons,List.sum_cons,Int.add_assoc]
theorem Zmr {N:Nat}{l:List Qaa}(hl:l.length≤1000) (hN:1001≤N):Qly N l=some (totW l):=by
 unfold Qly
 simp only[Qbc]
 have:=Zcb N l (fun x=>match x with |(y1,y2,y3,y4)=>some (⟨y1,y2,y3,y4⟩:Qaa)) (by omega) N 0 0 0 0 0 (by simp;omega)
 rw[Qy6,List.drop_zero] at this
 refine this.trans ?_
 simp[totW]
theorem Qne (s:Qaa) (l:List Qaa):totS (s::l)=⟨s.Mass+(totS l).Mass,s.Heat+(totS l).Heat,s.Silica+(totS l).Silica,s.Gas+(totS l).Gas⟩:=by simp[totS]
theorem Qnw (s:Qaa):totS [s]=s:=by simp[totS]
theorem Q3t (l m:List Qaa):totS (l++m)=⟨(totS l).Mass+(totS m).Mass,(totS l).Heat+(totS m).Heat,(totS l).Silica+(totS m).Silica,(totS l).Gas+(totS m).Gas⟩:=by simp[totS]
structure TotV (t:Qaa) (n:Nat):Prop where
 m0:0≤t.Mass
 m1:t.Mass≤1000000*n
 h0:0≤t.Heat
 h1:t.Heat≤4000*t.Mass
 s0:0≤t.Silica
 s1:t.Silica≤10000*t.Mass
 g0:0≤t.Gas
 g1:t.Gas≤1000000000*n
theorem Qo0:∀{l:List Qaa},(∀s∈l,StrV s)→TotV (totS l) l.length
 |[],_=>⟨by decide,by decide,by decide,by decide,by decide,by decide,by decide,by decide⟩
 |s::l,h=>by
  obtain⟨a1,a2,a3,a4,a5,a6,a7,a8⟩:=Qo0 fun x hx=>h x (List.mem_cons_of_mem s hx)
  obtain⟨b1,b2,b3,b4,b5,b6,b7,b8⟩:=h s List.mem_cons_self
  rw[Qne]
  refine⟨?_,?_,?_,?_,?_,?_,?_,?_⟩<;>simp only[List.length_cons]<;>omega
theorem Qqk {l:List Qaa}(h:∀s∈l,StrV s) (hl:l.length≤1000):totW l=totS l:=by
 obtain⟨a1,a2,a3,a4,a5,a6,a7,a8⟩:=Qo0 h
 have:(l.length:Int)≤1000:=by omega
 unfold totW
 rw[Qbh (x:=(totS l).Mass) (by omega) (by omega),Qbh (x:=(totS l).Heat) (by omega) (by omega),Qbh (x:=(totS l).Silica) (by omega) (by omega),Qbh (x:=(totS l).Gas) (by omega) (by omega)]
theorem Zgn {l:List Qaa}(h:∀s∈l,StrV s) (hm:(totS l).Mass≤1000000) (hg:(totS l).Gas≤1000000000):StrV (totS l):=by
 obtain⟨a1,a2,a3,a4,a5,a6,a7,a8⟩:=Qo0 h
 exact⟨a1,hm,a3,a4,a5,a6,a7,hg⟩
def mx (s:Qaa):Int:=if s.Mass>1 then s.Mass else 1
def Qs8 (s:Qaa) (m:Int):Qaa:=⟨m,s.Heat*m/mx s,s.Silica*m/mx s,s.Gas*m/mx s⟩
def Qhi (s:Qaa) (ws:List Int):List Qaa:=(Qib s.Mass ws).map (Qs8 s)
def Qj5 (s:Qaa) (ws:List Int):Qhv:=⟨s.Heat-(totS (Qhi s ws)).Heat,s.Silica-(totS (Qhi s ws)).Silica,s.Gas-(totS (Qhi s ws)).Gas⟩
theorem Q13 (s:Qaa):0<mx s:=by unfold mx;split<;>omega
theorem Zna {s:Qaa}(h:0≤s.Mass):s.Mass≤mx s:=by unfold mx;split<;>omega
theorem Zc0 {n m c:Int}{s:Qaa}(hM:0≤s.Mass) (hm:0≤m) (hn:n≤c*s.Mass) (hc:0≤c):n*m/mx s≤c*m:=by
 have h1:n*m≤c*s.Mass*m:=Int.mul_le_mul_of_nonneg_right hn hm
 have h2:c*s.Mass*m≤c*m*mx s:=by
  rw[Int.mul_assoc,Int.mul_assoc,Int.mul_comm s.Mass m]
  exact Int.mul_le_mul_of_nonneg_left (Int.mul_le_mul_of_nonneg_left (Zna hM) hm) hc
 exact Int.ediv_le_of_le_mul (Q13 s) (Int.le_trans h1 h2)
theorem Qv0 {n m:Int}{s:Qaa}(hM:0≤s.Mass) (hm:0≤m) (hmM:m≤s.Mass) (hn:0≤n):0≤n*m/mx s∧n*m/mx s≤n:=by
 have hp:=Q13 s
 refine⟨Int.ediv_nonneg (Int.mul_nonneg hn hm) (by omega),Int.ediv_le_of_le_mul hp ?_⟩
 have:=Zna hM
 exact Int.mul_le_mul_of_nonneg_left (by omega) hn
theorem Zg5 {s:Qaa}(hs:StrV s) {m:Int}(h0:0≤m) (h1:m≤s.Mass):StrV (Qs8 s m):=by
 obtain⟨a1,a2,a3,a4,a5,a6,a7,a8⟩:=hs
 have b1:=Qv0 a1 h0 h1 a3
 have b2:=Zc0 a1 h0 a4 (by omega)
 have b3:=Qv0 a1 h0 h1 a5
 have b4:=Zc0 a1 h0 a6 (by omega)
 have b5:=Qv0 a1 h0 h1 a7
 exact⟨h0,by dsimp only[Qs8];omega,b1.1,b2,b3.1,b4,b5.1,by dsimp only[Qs8];omega⟩
theorem Q6m {n:Int}{s:Qaa}(hn:0≤n):∀(l:List Int),(∀m∈l,0≤m)→mx s*(l.map fun m=>n*m/mx s).sum≤n*l.sum
 |[],_=>by simp
 |m::l,h=>by
  have h1:=Q6m (n:=n) (s:=s) hn l fun x hx=>h x (List.mem_cons_of_mem _ hx)
  have hp:=Q13 s
  have h2:=Int.mul_ediv_self_le (x:=n*m) (k:=mx s) (by omega)
  simp only[List.map_cons,List.sum_cons,Int.mul_add]
  omega
theorem Qzo {n:Int}{s:Qaa}(hn:0≤n) (hM:0≤s.Mass) {l:List Int}(h:∀m∈l,0≤m) (hl:l.sum=s.Mass):(l.map fun m=>n*m/mx s).sum≤n:=by
 have h1:=Q6m (s:=s) hn l h
 have hp:=Q13 s
 rw[hl] at h1
 have h2:n*s.Mass≤n*mx s:=Int.mul_le_mul_of_nonneg_left (Zna hM) hn
 rw[Int.mul_comm n (mx s)] at h2
 exact Int.le_of_mul_le_mul_left (Int.le_trans h1 h2) hp
theorem Q8b (s:Qaa) (l:List Int):totS (l.map (Qs8 s))=⟨l.sum,(l.map fun m=>s.Heat*m/mx s).sum,(l.map fun m=>s.Silica*m/mx s).sum,(l.map fun m=>s.Gas*m/mx s).sum⟩:=by
 simp[totS,Qs8,Function.comp_def]
structure Zt1 (s:Qaa) (o:List Qaa) (l:Qhv):Prop where
 v:∀x∈o,StrV x
 m:(totS o).Mass=s.Mass
 h:(totS o).Heat+l.Heat=s.Heat
 q:(totS o).Silica+l.Silica=s.Silica
 g:(totS o).Gas+l.Gas=s.Gas
 h0:0≤l.Heat
 q0:0≤l.Silica
 g0:0≤l.Gas
theorem Qjl {s:Qaa}(hs:StrV s) {ws:List Int}(h:WtsV ws):Zt1 s (Qhi s ws) (Qj5 s ws):=by
 have hs':=hs
 obtain⟨a1,a2,a3,a4,a5,a6,a7,a8⟩:=hs'
 have hsum:=Qv8 h a1 a2
 have hbd:=Qtb h a1 a2
 have hnn:∀m∈Qib s.Mass ws,0≤m:=fun m hm=>(hbd m hm).1
 have e:totS (Qhi s ws)=_:=Q8b s (Qib s.Mass ws)
 have t1:=Qzo (n:=s.Heat) (s:=s) a3 a1 hnn hsum
 have t2:=Qzo (n:=s.Silica) (s:=s) a5 a1 hnn hsum
 have t3:=Qzo (n:=s.Gas) (s:=s) a7 a1 hnn hsum
 refine⟨fun x hx=>?_,?_,?_,?_,?_,?_,?_,?_⟩
 ·obtain⟨m,hm,rfl⟩:=List.mem_map.1 hx
  exact Zg5 hs (hbd m hm).1 (hbd m hm).2
 ·rw[e];exact hsum
 all_goals (simp only[Qj5,e];omega)
section
variable {N : Nat} {s : Qaa} {ws : List Int} (hs : StrV s) (h : WtsV ws) (hN : 1001 ≤ N)
include hs in
theorem Zc7 {n m:Int}(hn:0≤n) (hn':n≤10000000000) (h0:0≤m) (h1:m≤s.Mass) (a b c:Int):Qfx N n m s.Mass a b c=some (n*m/mx s):=by
 have hM:=hs.m1
 have hM0:=hs.m0
 have hp:=bdp hn hn' h0 (show m≤1000000 by omega) (by omega)
 have hb:=Qv0 hM0 h0 h1 hn
 have hx:=Q13 s
 unfold Qfx
 show chk (mx s != 0) ((some (w64 ((w64 (n*m)).tdiv (mx s)))).bind fun x2=>some x2)=_
 rw[show(mx s != 0)=true by rw[bne_iff_ne];omega,Qbh (x:=n*m) (by omega) (by omega),Int.tdiv_eq_ediv_of_nonneg hp.1,Qbh (by omega) (by omega)]
 rfl
include hs in
theorem Q8s (k:List Qaa→Option (List Qaa×Qhv×Int)) (l:List Int) (hl:l.length≤20) (hb:∀m∈l,0≤m∧m≤s.Mass):∀(n i:Nat) (acc:List Qaa),(l.drop i).length<n→acc.length=i →
  Qem N s k l n acc i=k (acc++(l.drop i).map (Qs8 s)):=by
 intro n
 induction n with
 |zero=>intro i _ h;cases h
 |succ n ih=>
  intro i acc h ha
  rw[Qem]
  cases hd:l.drop i with
  |nil=>
   have:=Qbs hd
   simp[show ¬((i:Int)<l.length) from by omega]
  |cons m q=>
   obtain⟨hg,hd',hlt⟩:=Qbg hd
   obtain⟨m0,m1⟩:=hb m (List.mem_of_getElem? hg)
   have a1:=hs.m1
   simp only[dlI hlt,cond_true,Qbu hg,Option.bind_some,Zc7 (N:=N) hs hs.h0 (by have:=hs.h1;omega) m0 m1,Zc7 (N:=N) hs hs.s0 (by have:=hs.s1;omega) m0 m1,Zc7 (N:=N) hs hs.g0 (by have:=hs.g1;omega) m0 m1,chk]
   have hc:decide ((acc.length+[(⟨m,s.Heat*m/mx s,s.Silica*m/mx s,s.Gas*m/mx s⟩:Qaa)].length)*32≤140737488355328)=true:=by simp;omega
   rw[hc,cond_true,w64S (i:=i) (by omega),
    ih (i+1) _ (dlt hd hd' h) (by simp[ha]),hd',List.append_assoc]
   rfl
include h hN in
theorem Zb0:Qh3 N ws=some true∧Qck N ws=some true:=by
 have hl:=h.l2
 have hc:Qc2 N ws=some (ws.any fun x=>!btw x 0 1000):=by
  unfold Qc2 Qep Qbc
  refine Qjm (F:=Qb5 N ws fun _=>some (-1)) (k:=fun _=>some (-1)) (q:=Qg2 N) (fun n y=>rfl) (fun x=>?_) rfl (by omega) (by omega)
  simp only[Qg2,Qkt,Qnd,Option.bind_some]
 constructor
 ·unfold Qh3
  rw[hc,Option.bind_some,Qw3]
  congr 1
  exact List.all_eq_true.2 fun x hx=>Qf4.2 (h.w x hx)
 ·have:Qck N ws=some (ws.any fun x=>decide (x>0)):=by
   unfold Qck Qeo Qbc
   exact Qjm (F:=Qb4 N ws fun _=>some (-1)) (k:=fun _=>some (-1)) (q:=Qks N) (fun n y=>rfl) (fun x=>rfl) rfl (by omega) (by omega)
  rw[this]
  congr 1
  obtain⟨x,hx,hp⟩:=h.some
  exact List.any_eq_true.2 ⟨x,hx,by simpa using hp⟩
include hs h hN in
theorem Zgy:Qkx N s ws=some (Qhi s ws,Qj5 s ws,0):=by
 have hl:=h.l2
 obtain⟨w1,w2⟩:=Zb0 h hN
 have hK:=Qjl hs h
 have hlen:(Qhi s ws).length=ws.length:=by unfold Qhi;rw[List.length_map,Qhf]
 unfold Qkx
 simp only[Qbc,Qy7,Qpo.2 hs,Option.bind_some,Bool.not_true,cond_false,w1,w2,show decide ((ws.length:Int)>20)=false from by simp;omega,Zdm h hs.m0 hs.m1 hN]
 refine(Q8s hs _ (Qib s.Mass ws) (by rw[Qhf];exact hl) (Qtb h hs.m0 hs.m1) N 0 [] (by rw[List.drop_zero,Qhf];omega) rfl).trans ?_
 rw[List.drop_zero,List.nil_append]
 show(Qly N (Qhi s ws)).bind _=_
 rw[Zmr (by omega) hN,Option.bind_some,Qqk hK.v (by omega)]
 obtain⟨_,k1,k2,k3,k4,k5,k6,k7⟩:=hK
 have g1:=hs.h1
 have g2:=hs.s1
 have g3:=hs.g1
 have g4:=hs.m1
 have v:=Qo0 (Qjl hs h).v
 have:=v.h0
 have:=v.s0
 have:=v.g0
 unfold Qj5 at *
 dsimp only at *
 rw[Qbh (x:=s.Heat-_) (by omega) (by omega),Qbh (x:=s.Silica-_) (by omega) (by omega),Qbh (x:=s.Gas-_) (by omega) (by omega)]
 rfl
end
end
section
def pq (p:Qbn):Int×Int:=(p.Element,p.Outlet)
def Q6j (els:List Qaf) (i:Nat) (lv:Int) (u:List (Int×Int)) (p:Qbn):Bool:=
 btw p.Element 0 ((i:Int)-1)&&(match getI els p.Element with |some y=>btw p.Outlet 0 (outl y-1)&&decide (lv≤y.Level) |none=>false)&&!u.contains (pq p)
def Qj0 (els:List Qaf) (i:Nat) (lv:Int):List (Int×Int)→List Qbn→Bool
 |_,[]=>true
 |u,p::l=>Q6j els i lv u p&&Qj0 els i lv (u++[pq p]) l
def Qwn (n:Int) (els:List Qaf):Nat→List (Int×Int)→List Qaf→Bool
 |_,_,[]=>true
 |i,u,x::l=>btw x.Level 0 (n-1)&&Qj0 els i x.Level u x.From&&Qwn n els (i+1) (u++x.From.map pq) l
def netB (n:GNet):Bool:=tabB n.Table&&btw n.Elements.length 1 16&&n.Elements.all Qil&&Qwn n.Table.length n.Elements 0 [] n.Elements
structure Qim (n:GNet):Prop where
 t:n.Table.length≤25
 e:n.Elements.length≤18
 x:∀x∈n.Elements,x.From.length≤25∧x.Weights.length≤25
theorem Zc2 {x:Qaf}(h:x.Weights.length≤25):0≤outl x∧outl x≤25:=by
 unfold outl
 split
 ·omega
 ·split<;>omega
theorem Zdz {els:List Qaf}{a:Int}{i:Nat}(h:btw a 0 ((i:Int)-1)=true) (hi:i≤els.length):∃y,getI els a=some y∧y∈els:=by
 obtain⟨h1,h2⟩:=Qf4.1 h
 have hlt:a.toNat<els.length:=by omega
 exact⟨els[a.toNat],by unfold getI;rw[if_pos h1,List.getElem?_eq_getElem hlt],List.getElem_mem hlt⟩
section
variable {N : Nat} {n : GNet} (hs : Qim n) (hN : 1001 ≤ N)
include hs hN
omit hN in
theorem Q8p {i:Nat}(hi:i<n.Elements.length) {x:Qaf}(hx:x.From.length≤25) (k:List (Int×Int)→Option Bool):∀(m j:Nat) (u:List (Int×Int)),(x.From.drop j).length<m →
  Qdm N n i k x m j u=bif Qj0 n.Elements i x.Level u (x.From.drop j) then k (u++(x.From.drop j).map pq) else some false:=by
 intro m
 induction m with
 |zero=>intro j _ h;cases h
 |succ m ih=>
  intro j u h
  rw[Qdm]
  cases hd:x.From.drop j with
  |nil=>
   have:=Qbs hd
   simp[show ¬((j:Int)<x.From.length) from by omega,Qj0]
  |cons p l=>
   obtain⟨hg,hd',hlt⟩:=Qbg hd
   have e0:=hs.e
   simp only[dlI hlt,cond_true,Qbu hg,Option.bind_some,Qkg,Qj0,Q6j]
   rw[Qbh (x:=(i:Int)-1) (by omega) (by omega)]
   cases hb:btw p.Element 0 ((i:Int)-1) with
   |false=>rfl
   |true=>
    obtain⟨y,hy,hym⟩:=Zdz hb (Nat.le_of_lt hi)
    obtain⟨o0,o1⟩:=Zc2 (hs.x y hym).2
    simp only[Bool.not_true,cond_false,hy,Option.bind_some,Zm6,Bool.true_and]
    rw[Qbh (x:=outl y-1) (by omega) (by omega)]
    cases hc:btw p.Outlet 0 (outl y-1) with
    |false=>rfl
    |true=>
     simp only[Bool.not_true,cond_false,Bool.true_and]
     show(bif u.contains (pq p) then some false else _)=_
     cases hu:u.contains (pq p) with
     |true=>simp
     |false=>
      simp only[cond_false,Bool.not_false,Bool.and_true]
      by_cases hl:x.Level>y.Level
      ·rw[decide_eq_true hl,decide_eq_false (by omega)];rfl
      ·rw[decide_eq_false hl,decide_eq_true (by omega),cond_false,w64S (i:=j) (by omega),
        ih (j+1) _ (dlt hd hd' h),hd']
       have ea:addQ u (p.Element,p.Outlet)=u++[pq p]:=by
        unfold addQ
        rw[show u.contains (p.Element,p.Outlet)=false from hu];rfl
       rw[ea,Bool.true_and,List.map_cons,List.append_assoc]
       rfl
theorem Zel (k:Unit→Option Bool):∀(m i:Nat) (u:List (Int×Int)),(n.Elements.drop i).length<m →
  Qc6 N n k m i u=bif Qwn n.Table.length n.Elements i u (n.Elements.drop i) then k () else some false:=by
 intro m
 induction m with
 |zero=>intro i _ h;cases h
 |succ m ih=>
  intro i u h
  rw[Qc6]
  cases hd:n.Elements.drop i with
  |nil=>
   have:=Qbs hd
   simp[show ¬((i:Int)<n.Elements.length) from by omega,Qwn]
  |cons x l=>
   obtain⟨hg,hd',hlt⟩:=Qbg hd
   have e0:=hs.e
   have e1:=hs.t
   have hx:=hs.x x (List.mem_of_getElem? hg)
   simp only[dlI hlt,cond_true,Qbc,Qbu hg,Option.bind_some,Qkg,Qwn]
   rw[Qbh (x:=(n.Table.length:Int)-1) (by omega) (by omega)]
   cases hb:btw x.Level 0 ((n.Table.length:Int)-1) with
   |false=>rfl
   |true=>
    have:=Q8p (N:=N) hs hlt hx.1 (fun y9=>Qc6 N n k m (w64 ((i:Int)+1)) y9) N 0 u (by simp;omega)
    rw[List.drop_zero] at this
    simp only[Bool.not_true,cond_false,Bool.true_and]
    refine this.trans ?_
    cases Qj0 n.Elements i x.Level u x.From with
    |false=>rfl
    |true=>
     rw[cond_true,w64S (i:=i) (by omega),ih (i+1) _ (dlt hd hd' h),hd',Bool.true_and]
theorem Zo6:Qee N n.Elements=some (n.Elements.all Qil):=by
 have e0:=hs.e
 have hc:Qbq N n.Elements=some (n.Elements.any fun x=>!Qil x):=by
  unfold Qbq Qb3 Qbc
  have gen:∀(m j:Nat),(n.Elements.drop j).length<m→(Qa4 N n.Elements (fun _=>some (-1)) m j).bind (fun x=>some (decide (x≥0)))=some ((n.Elements.drop j).any fun x=>!Qil x):=by
   intro m
   induction m with
   |zero=>intro j h;cases h
   |succ m ih=>
    intro j h
    rw[Qa4]
    cases hd:n.Elements.drop j with
    |nil=>
     have:=Qbs hd
     simp[show ¬((j:Int)<n.Elements.length) from by omega]
    |cons x l=>
     obtain⟨hg,hd',hlt⟩:=Qbg hd
     have hx:=hs.x x (List.mem_of_getElem? hg)
     simp only[dlI hlt,cond_true,Qbu hg,Option.bind_some,Qe9,Zfg (show x.Weights.length≤1000 by omega) hN,List.any_cons]
     cases Qil x with
     |false=>simp
     |true=>
      rw[Bool.not_true,cond_false,w64S (i:=j) (by omega),ih (j+1) (dlt hd hd' h),hd',Bool.false_or]
  have:=gen N 0 (by simp;omega)
  rw[List.drop_zero] at this
  exact this
 unfold Qee
 rw[hc,Option.bind_some,Qw3]
theorem Zdf:Qgq N n=some (netB n):=by
 have e0:=hs.e
 have e1:=hs.t
 unfold Qgq netB Qin
 simp only[Qbc,Q1b (show n.Table.length≤1000 by omega) hN,Option.bind_some,Qkg,Zo6 hs hN]
 cases tabB n.Table with
 |false=>rfl
 |true=>
  simp only[Bool.not_true,cond_false,Option.bind_some,Bool.true_and,show((0:Int) != 0)=false from rfl]
  cases btw n.Elements.length 1 16 with
  |false=>rfl
  |true=>
   cases n.Elements.all Qil with
   |false=>rfl
   |true=>
    have:=Zel hs hN (fun _=>some true) N 0 [] (by simp;omega)
    rw[List.drop_zero] at this
    simp only[Bool.not_true,cond_false,Bool.true_and]
    refine this.trans ?_
    cases Qwn n.Table.length n.Elements 0 [] n.Elements<;>rfl
omit hs in
theorem Zjn {l:List Qbn}(hl:l.length≤1000) (p:Qbn):Qk6 N l p=some ((l.map pq).contains (pq p)):=by
 unfold Qk6
 simp only[Qbc]
 have gen:∀(m j:Nat),(l.drop j).length<m→Qet N l (fun _=>some false) p m j=some (((l.drop j).map pq).contains (pq p)):=by
  intro m
  induction m with
  |zero=>intro j h;cases h
  |succ m ih=>
   intro j h
   rw[Qet]
   cases hd:l.drop j with
   |nil=>
    have:=Qbs hd
    simp[show ¬((j:Int)<l.length) from by omega]
   |cons x q=>
    obtain⟨hg,hd',hlt⟩:=Qbg hd
    have hx:(([x.Element,x.Outlet]:List Int)==[p.Element,p.Outlet])=(pq p==pq x):=by
     by_cases h1:x.Element=p.Element
     ·by_cases h2:x.Outlet=p.Outlet
      ·rw[h1,h2,beq_self_eq_true];simp[pq,h1,h2]
      ·rw[beq_eq_false_iff_ne.2 (by simp[h2]),beq_eq_false_iff_ne.2 (by simp only[pq,ne_eq,Prod.mk.injEq];omega)]
     ·rw[beq_eq_false_iff_ne.2 (by simp[h1]),beq_eq_false_iff_ne.2 (by simp only[pq,ne_eq,Prod.mk.injEq];omega)]
    simp only[dlI hlt,cond_true,Qbu hg,Option.bind_some,hx,List.map_cons,List.contains_cons]
    cases (pq p==pq x) with
    |true=>rfl
    |false=>rw[cond_false,w64S (i:=j) (by omega),ih (j+1) (dlt hd hd' h),hd',Bool.false_or]
 have:=gen N 0 (by simp;omega)
 rw[List.drop_zero] at this
 exact this
theorem Q8o {i:Nat}(hi:i<n.Elements.length) {x:Qaf}(hx:x.From.length≤25) (k:List Qbn→Option Bool):∀(m j:Nat) (u:List Qbn),(x.From.drop j).length<m→u.length≤25*i+j →
  Qeu N n i k x m u j=bif Qj0 n.Elements i x.Level (u.map pq) (x.From.drop j) then k (u++x.From.drop j) else some false:=by
 intro m
 induction m with
 |zero=>intro j _ h;cases h
 |succ m ih=>
  intro j u h hu
  rw[Qeu]
  cases hd:x.From.drop j with
  |nil=>
   have:=Qbs hd
   simp[show ¬((j:Int)<x.From.length) from by omega,Qj0]
  |cons p l=>
   obtain⟨hg,hd',hlt⟩:=Qbg hd
   have e0:=hs.e
   simp only[dlI hlt,cond_true,Qbu hg,Option.bind_some,Q4d,Qj0,Q6j]
   rw[Qbh (x:=(i:Int)-1) (by omega) (by omega)]
   cases hb:btw p.Element 0 ((i:Int)-1) with
   |false=>rfl
   |true=>
    obtain⟨y,hy,hym⟩:=Zdz hb (Nat.le_of_lt hi)
    obtain⟨o0,o1⟩:=Zc2 (hs.x y hym).2
    simp only[Bool.not_true,cond_false,hy,Option.bind_some,Zm5,Bool.true_and]
    rw[Qbh (x:=outl y-1) (by omega) (by omega)]
    cases hc:btw p.Outlet 0 (outl y-1) with
    |false=>rfl
    |true=>
     simp only[Bool.not_true,cond_false,Bool.true_and]
     by_cases hl:x.Level>y.Level
     ·rw[decide_eq_true hl,decide_eq_false (show ¬x.Level≤y.Level by omega)];rfl
     ·rw[decide_eq_false hl,decide_eq_true (show x.Level≤y.Level by omega),cond_false,Zjn hN (by omega),Option.bind_some]
      cases hu':(u.map pq).contains (pq p) with
      |true=>simp
      |false=>
       simp only[cond_false,chk]
       rw[show decide ((u.length+[p].length)*16≤140737488355328)=true by simp;omega,cond_true,w64S (i:=j) (by omega),
        ih (j+1) _ (dlt hd hd' h) (by simp;omega),hd',List.map_append,List.append_assoc]
       rfl
def elsR (t:Int) (els:List Qaf):Nat→List (Int×Int)→List Qaf→Bool
 |_,_,[]=>true
 |i,u,x::l=>Qil x&&btw x.Level 0 (t-1)&&Qj0 els i x.Level u x.From&&elsR t els (i+1) (u++x.From.map pq) l
omit hs hN in
theorem Zek (t:Int) (els:List Qaf):∀(l:List Qaf) (i:Nat) (u:List (Int×Int)),elsR t els i u l=(l.all Qil&&Qwn t els i u l)
 |[],_,_=>rfl
 |x::l,i,u=>by
  rw[elsR,Zek t els l,Qwn,List.all_cons]
  cases Qil x<;>cases btw x.Level 0 (t-1)<;>cases Qj0 els i x.Level u x.From<;>cases l.all Qil<;>rfl
theorem Zej (k:Unit→Option Bool):∀(m i:Nat) (u:List Qbn),(n.Elements.drop i).length<m→u.length≤25*i →
  Qdy N n k m u i=bif elsR n.Table.length n.Elements i (u.map pq) (n.Elements.drop i) then k () else some false:=by
 intro m
 induction m with
 |zero=>intro i _ h;cases h
 |succ m ih=>
  intro i u h hu
  rw[Qdy]
  cases hd:n.Elements.drop i with
  |nil=>
   have:=Qbs hd
   simp[show ¬((i:Int)<n.Elements.length) from by omega,elsR]
  |cons x l=>
   obtain⟨hg,hd',hlt⟩:=Qbg hd
   have e0:=hs.e
   have e1:=hs.t
   have hx:=hs.x x (List.mem_of_getElem? hg)
   simp only[dlI hlt,cond_true,Qbc,Qbu hg,Option.bind_some,Zff (show x.Weights.length≤1000 by omega) hN,Q4d,elsR]
   rw[Qbh (x:=(n.Table.length:Int)-1) (by omega) (by omega)]
   cases Qil x with
   |false=>rfl
   |true=>
    cases hb:btw x.Level 0 ((n.Table.length:Int)-1) with
    |false=>rfl
    |true=>
     have:=Q8o hs hN hlt hx.1 (fun y9=>Qdy N n k m y9 (w64 ((i:Int)+1))) N 0 u (by simp;omega) (by omega)
     rw[List.drop_zero] at this
     simp only[Bool.not_true,cond_false,Bool.true_and]
     refine this.trans ?_
     cases Qj0 n.Elements i x.Level (u.map pq) x.From with
     |false=>rfl
     |true=>
      rw[cond_true,w64S (i:=i) (by omega),ih (i+1) _ (dlt hd hd' h) (by simp;omega),hd',Bool.true_and,List.map_append]
theorem Zde:Qjh N n=some (netB n):=by
 have e0:=hs.e
 have e1:=hs.t
 unfold Qjh netB
 simp only[Qbc,Zcs (show n.Table.length≤9223372036854775807 by omega) (show n.Table.length<N by omega),Option.bind_some]
 cases tabB n.Table with
 |false=>rfl
 |true=>
  simp only[Bool.not_true,cond_false,Bool.true_and]
  by_cases h1:(n.Elements.length:Int)<1
  ·rw[decide_eq_true h1,show btw n.Elements.length 1 16=false by unfold btw;rw[decide_eq_false (by omega)];rfl];rfl
  ·by_cases h2:(n.Elements.length:Int)>16
   ·rw[decide_eq_false h1,decide_eq_true h2,show btw n.Elements.length 1 16=false by unfold btw;rw[decide_eq_false (show ¬(n.Elements.length:Int)≤16 by omega),Bool.and_false]];rfl
   ·rw[decide_eq_false h1,decide_eq_false h2,Qf4.2 ⟨by omega,by omega⟩]
    have:=Zej hs hN (fun _=>some true) N 0 [] (by simp;omega) (by simp)
    rw[List.drop_zero] at this
    simp only[cond_false,Bool.true_and]
    refine this.trans ?_
    rw[Zek]
    cases n.Elements.all Qil<;>cases h:Qwn n.Table.length n.Elements 0 [] n.Elements<;>simp[h]
end
theorem Zhk (N:Nat) (n:GNet) (k:Unit→Option Bool) (hl:(n.Elements.length:Int)≤9223372036854775807):∀(m i:Nat),(n.Elements.drop i).length<m →
  Qf3 N n k m i=bif (n.Elements.drop i).all (fun x=>decide (x.From.length≤25)&&decide (x.Weights.length≤25)) then k () else some false:=by
 intro m
 induction m with
 |zero=>intro i h;cases h
 |succ m ih=>
  intro i h
  rw[Qf3]
  cases hd:n.Elements.drop i with
  |nil=>
   have:=Qbs hd
   simp[show ¬((i:Int)<n.Elements.length) from by omega]
  |cons x l=>
   obtain⟨hg,hd',hlt⟩:=Qbg hd
   simp only[dlI hlt,cond_true,Qbu hg,Option.bind_some,List.all_cons]
   by_cases h1:(x.From.length:Int)>25
   ·rw[decide_eq_true h1,decide_eq_false (show ¬x.From.length≤25 by omega)];rfl
   ·by_cases h2:(x.Weights.length:Int)>25
    ·rw[decide_eq_false h1,decide_eq_true h2,decide_eq_false (show ¬x.Weights.length≤25 by omega)];simp
    ·rw[decide_eq_false h1,decide_eq_false h2,decide_eq_true (show x.From.length≤25 by omega),decide_eq_true (show x.Weights.length≤25 by omega),cond_false,cond_false,w64S (i:=i) (by omega),ih (i+1) (dlt hd hd' h),hd']
     rfl
theorem Zru {N:Nat}{n:GNet}{ws:List Qaa}(hl:(n.Elements.length:Int)≤9223372036854775807) (hN:n.Elements.length<N):(Ql1 N n ws=some false)∨(Ql1 N n ws=some true∧Qim n∧ws.length≤25):=by
 unfold Ql1
 simp only[Qbc]
 have:=Zhk N n (fun _=>bif (decide ((n.Elements.length:Int)≤18)) then bif (decide ((n.Table.length:Int)≤25)) then some (decide ((ws.length:Int)≤25)) else some false else some false) hl N 0 (by simpa using hN)
 rw[List.drop_zero,show((0:Nat):Int)=0 from rfl] at this
 rw[this]
 cases ha:n.Elements.all (fun x=>decide (x.From.length≤25)&&decide (x.Weights.length≤25)) with
 |false=>exact .inl rfl
 |true=>
  rw[cond_true]
  by_cases h1:(n.Elements.length:Int)≤18
  ·by_cases h2:(n.Table.length:Int)≤25
   ·by_cases h3:(ws.length:Int)≤25
    ·refine .inr ⟨by rw[decide_eq_true h1,decide_eq_true h2,decide_eq_true h3];rfl,⟨by omega,by omega,fun x hx=>?_⟩,by omega⟩
     have:=List.all_eq_true.1 ha x hx
     simpa using this
    ·exact .inl (by rw[decide_eq_true h1,decide_eq_true h2,decide_eq_false h3];rfl)
   ·exact .inl (by rw[decide_eq_true h1,decide_eq_false h2];rfl)
  ·exact .inl (by rw[decide_eq_false h1];rfl)
theorem Zdg (N:Nat) (x:Qaf) (k:List Qaf×List Qbn×List Int→Option GNet) (hl:x.From.length≤1000) (a:List Qaf) (w:List Int):∀(m j:Nat) (acc:List Qbn),(x.From.drop j).length<m→acc.length=j →
  Qf1 N x k m j a acc w=k (a,acc++x.From.drop j,w):=by
 intro m
 induction m with
 |zero=>intro j _ h;cases h
 |succ m ih=>
  intro j acc h ha
  rw[Qf1]
  cases hd:x.From.drop j with
  |nil=>
   have:=Qbs hd
   simp[show ¬((j:Int)<x.From.length) from by omega]
  |cons p l=>
   obtain⟨hg,hd',hlt⟩:=Qbg hd
   simp only[dlI hlt,cond_true,Qbu hg,Option.bind_some,chk]
   rw[show decide ((acc.length+[p].length)*16≤140737488355328)=true by simp;omega,cond_true,w64S (i:=j) (by omega),
    ih (j+1) _ (dlt hd hd' h) (by simp[ha]),hd',List.append_assoc]
   rfl
theorem Zhc {N:Nat}{n:GNet}(hs:Qim n) (hN:1001≤N) (k:List Qaf→Option GNet):∀(m i:Nat) (acc:List Qaf),(n.Elements.drop i).length<m→acc.length=i →
  Qf2 N n k m i acc=k (acc++n.Elements.drop i):=by
 intro m
 induction m with
 |zero=>intro i _ h;cases h
 |succ m ih=>
  intro i acc h ha
  rw[Qf2]
  cases hd:n.Elements.drop i with
  |nil=>
   have:=Qbs hd
   simp[show ¬((i:Int)<n.Elements.length) from by omega]
  |cons x l=>
   obtain⟨hg,hd',hlt⟩:=Qbg hd
   have e0:=hs.e
   have hx:=hs.x x (List.mem_of_getElem? hg)
   simp only[dlI hlt,cond_true,Qbu hg,Option.bind_some,chk,Qbc]
   rw[show decide ((([]:List Int).length+x.Weights.length)*8≤140737488355328)=true by simp;omega,cond_true]
   refine(Zdg N x _ (by omega) acc ([]++x.Weights) N 0 [] (by simp;omega) rfl).trans ?_
   dsimp only
   rw[List.drop_zero,List.nil_append,List.nil_append,show decide ((acc.length+[(⟨x.Kind,x.From,x.Level,x.Amount,x.Wide,x.Narrow,x.Weights⟩:Qaf)].length)*88≤140737488355328)=true by simp;omega,cond_true,w64S (i:=i) (by omega),
    ih (i+1) _ (dlt hd hd' h) (by simp[ha]),hd',List.append_assoc]
   rfl
theorem Zrp {N:Nat}{n:GNet}(hs:Qim n) (hN:1001≤N):Ql0 N n=some n:=by
 have e0:=hs.e
 have e1:=hs.t
 unfold Ql0
 rw[Zgq (by omega) hN,Option.bind_some,Qbc]
 refine(Zhc hs hN _ N 0 [] (by simp;omega) rfl).trans ?_
 rw[List.drop_zero,List.nil_append]
theorem Znd (N:Nat) {l:List Int}(hl:l.length≤1000):Qmg N l=some l:=by
 unfold Qmg chk
 rw[show decide ((([]:List Int).length+l.length)*8≤140737488355328)=true by simp;omega,cond_true,List.nil_append]
end
section
def Qq2 {α:Type}(i:Nat):Nat→List α→List ((Int×Int)×α)
 |_,[]=>[]
 |j,a::l=>(((i:Int),(j:Int)),a)::Qq2 i (j+1) l
def Qii {α:Type}:Nat→List (List α)→List ((Int×Int)×α)
 |_,[]=>[]
 |i,r::o=>Qq2 i 0 r++Qii (i+1) o
def Qh8 {α:Type}(f:α→Int) (U:List (Int×Int)) (l:List ((Int×Int)×α)):Int:=((l.filter fun x=>!U.contains x.1).map fun x=>f x.2).sum
section
variable {α : Type}
theorem Qr3 {i:Nat}{a b:Int}{s:α}:∀{l:List α}{j:Nat},((a,b),s)∈Qq2 i j l↔a=i∧(j:Int)≤b∧l[(b-j).toNat]? = some s
 |[],j=>by simp[Qq2]
 |x::l,j=>by
  rw[Qq2,List.mem_cons,Qr3 (l:=l) (j:=j+1)]
  constructor
  ·rintro (h |⟨h1,h2,h3⟩)
   ·simp only[Prod.mk.injEq] at h
    obtain⟨⟨rfl,rfl⟩,rfl⟩:=h
    exact⟨rfl,Int.le_refl _,by simp⟩
   ·refine⟨h1,by omega,?_⟩
    rw[show(b-(j:Int)).toNat=(b-((j+1:Nat):Int)).toNat+1 by omega]
    simpa using h3
  ·rintro ⟨h1,h2,h3⟩
   by_cases e:b=j
   ·subst e;subst h1
    simp at h3
    exact .inl (by rw[h3])
   ·refine .inr ⟨h1,by omega,?_⟩
    rw[show(b-(j:Int)).toNat=(b-((j+1:Nat):Int)).toNat+1 by omega] at h3
    simpa using h3
theorem Qpf {a b:Int}{s:α}:∀{o:List (List α)}{i:Nat},((a,b),s)∈Qii i o↔(i:Int)≤a∧0≤b∧∃r,o[(a-i).toNat]? = some r∧r[b.toNat]? = some s
 |[],i=>by simp[Qii]
 |r::o,i=>by
  rw[Qii,List.mem_append,Qr3,Qpf (o:=o) (i:=i+1)]
  constructor
  ·rintro (⟨rfl,h2,h3⟩ |⟨h1,h2,q,h3,h4⟩)
   ·exact⟨Int.le_refl _,by omega,r,by simp,by simpa using h3⟩
   ·refine⟨by omega,h2,q,?_,h4⟩
    rw[show(a-(i:Int)).toNat=(a-((i+1:Nat):Int)).toNat+1 by omega]
    simpa using h3
  ·rintro ⟨h1,h2,q,h3,h4⟩
   by_cases e:a=i
   ·subst e
    simp at h3
    subst h3
    exact .inl ⟨rfl,by omega,by simpa using h4⟩
   ·refine .inr ⟨by omega,h2,q,?_,h4⟩
    rw[show(a-(i:Int)).toNat=(a-((i+1:Nat):Int)).toNat+1 by omega] at h3
    simpa using h3
theorem Qwk {i:Nat}:∀(l:List α) (j:Nat),((Qq2 i j l).map fun x=>x.1).Nodup
 |[],j=>by simp[Qq2]
 |x::l,j=>by
  rw[Qq2,List.map_cons,List.nodup_cons]
  refine⟨fun h=>?_,Qwk l (j+1)⟩
  obtain⟨⟨⟨a,b⟩,s⟩,h1,h2⟩:=List.mem_map.1 h
  have:=(Qr3.1 h1).2.1
  simp only[Prod.mk.injEq] at h2
  omega
theorem Qwl:∀(o:List (List α)) (i:Nat),((Qii i o).map fun x=>x.1).Nodup
 |[],i=>by simp[Qii]
 |r::o,i=>by
  rw[Qii,List.map_append,List.nodup_append]
  refine⟨Qwk r 0,Qwl o (i+1),fun x hx y hy=>?_⟩
  obtain⟨⟨⟨a,b⟩,s⟩,h1,rfl⟩:=List.mem_map.1 hx
  obtain⟨⟨⟨a',b'⟩,s'⟩,h2,rfl⟩:=List.mem_map.1 hy
  have h3:=(Qr3.1 h1).1
  have h4:=(Qpf.1 h2).1
  intro e
  simp only[Prod.mk.injEq] at e
  omega
theorem Qt2:∀(o o':List (List α)) (i:Nat),Qii i (o++o')=Qii i o++Qii (i+o.length) o'
 |[],o',i=>by simp[Qii]
 |r::o,o',i=>by
  rw[List.cons_append,Qii,Qt2 o o' (i+1),Qii,List.append_assoc,List.length_cons,show i+1+o.length=i+(o.length+1) by omega]
theorem Q1z (f:α→Int) (U:List (Int×Int)) (l l':List ((Int×Int)×α)):Qh8 f U (l++l')=Qh8 f U l+Qh8 f U l':=by
 simp[Qh8,List.filter_append]
theorem Qv3 {f:α→Int}{U V:List (Int×Int)}{l:List ((Int×Int)×α)}(h:∀x∈l,(x.1∈U↔x.1∈V)):Qh8 f U l=Qh8 f V l:=by
 unfold Qh8
 have:(l.filter fun x=>!U.contains x.1)=l.filter fun x=>!V.contains x.1:=List.filter_congr fun x hx=>by
  have:=h x hx
  by_cases h1:x.1∈U
  ·have h2:=this.1 h1
   simp[h1,h2]
  ·have h2:¬x.1∈V:=fun h=>h1 (this.2 h)
   simp[h1,h2]
 rw[this]
theorem Qxy (f:α→Int) {U:List (Int×Int)}{p:Int×Int}{s:α}:∀{l:List ((Int×Int)×α)},(l.map fun x=>x.1).Nodup→(p,s)∈l→p∉U→Qh8 f (p::U) l=Qh8 f U l-f s
 |[],_,h,_=>by simp at h
 |x::l,hn,h,hp=>by
  rw[List.map_cons,List.nodup_cons] at hn
  have e:∀V,Qh8 f V (x::l)=(if x.1∈V then 0 else f x.2)+Qh8 f V l:=fun V=>by
   unfold Qh8
   by_cases hv:x.1∈V<;>simp[hv]
  rw[e,e]
  rcases List.mem_cons.1 h with h |h
  ·subst h
   rw[if_pos (by simp),if_neg hp]
   have:Qh8 f (p::U) l=Qh8 f U l:=Qv3 fun y hy=>by
    rw[List.mem_cons]
    refine⟨fun h=>h.resolve_left fun e=>hn.1 ?_,.inr⟩
    rw[←e]
    exact List.mem_map.2 ⟨y,hy,rfl⟩
   rw[this]
   dsimp only
   omega
  ·rw[Qxy f hn.2 h hp]
   have hx:x.1≠p:=fun e=>hn.1 (by rw[e];exact List.mem_map.2 ⟨_,h,rfl⟩)
   have:(x.1∈p::U)↔x.1∈U:=by simp[hx]
   by_cases hv:x.1∈U
   ·rw[if_pos (this.2 hv),if_pos hv];omega
   ·rw[if_neg (fun h=>hv (this.1 h)),if_neg hv];omega
theorem Qv2 (f:α→Int) {l:List ((Int×Int)×α)}(hl:(l.map fun x=>x.1).Nodup):∀(P:List (Int×Int)) (S:List α) (U:List (Int×Int)),P.length=S.length→(∀(i:Nat) p s,P[i]? = some p→S[i]? = some s→(p,s)∈l)→P.Nodup→(∀p∈P,p∉U) →
  Qh8 f (P++U) l=Qh8 f U l-(S.map f).sum
 |[],[],U,_,_,_,_=>by simp
 |p::P,s::S,U,hlen,hm,hn,hu=>by
  rw[List.nodup_cons] at hn
  have h1:=Qv2 f hl P S U (by simpa using hlen) (fun i q t h1 h2=>hm (i+1) q t (by simpa using h1) (by simpa using h2)) hn.2 fun q hq=>hu q (List.mem_cons_of_mem _ hq)
  rw[List.cons_append,Qxy f hl (hm 0 p s rfl rfl),h1]
  ·simp only[List.map_cons,List.sum_cons];omega
  ·intro h
   rcases List.mem_append.1 h with h |h
   ·exact hn.1 h
   ·exact hu p List.mem_cons_self h
 |[],_::_,_,h,_,_,_=>by simp at h
 |_::_,[],_,h,_,_,_=>by simp at h
theorem Q1y (f:α→Int) {U:List (Int×Int)}{i:Nat}(hU:∀p∈U,p.1≠i):∀(r:List α) (j:Nat),Qh8 f U (Qq2 i j r)=(r.map f).sum
 |[],j=>rfl
 |x::r,j=>by
  have hx:((i:Int),(j:Int))∉U:=fun h=>hU _ h rfl
  have:Qh8 f U (Qq2 i j (x::r))=f x+Qh8 f U (Qq2 i (j+1) r):=by
   unfold Qh8
   rw[Qq2,List.filter_cons,if_pos (by simpa using hx),List.map_cons,List.sum_cons]
  rw[this,Q1y f hU r (j+1),List.map_cons,List.sum_cons]
theorem Qtw {f:α→Int}{U:List (Int×Int)}:∀{l:List ((Int×Int)×α)},(∀x∈l,0≤f x.2)→0≤Qh8 f U l
 |[],_=>by simp[Qh8]
 |x::l,h=>by
  have h1:=Qtw (U:=U) fun y hy=>h y (List.mem_cons_of_mem x hy)
  have h2:=h x List.mem_cons_self
  unfold Qh8 at h1 ⊢
  rw[List.filter_cons]
  split
  ·rw[List.map_cons,List.sum_cons];omega
  ·exact h1
theorem Q2g (i:Nat) (r:List α):Qii i [r]=Qq2 i 0 r:=by simp[Qii]
end
end
section
structure NetV (n:GNet):Prop where
 tab:tabB n.Table=true
 len:1≤n.Elements.length∧n.Elements.length≤16
 alone:∀x∈n.Elements,Qil x=true
 level:∀x∈n.Elements,0≤x.Level∧x.Level≤(n.Table.length:Int)-1
 port:∀(i:Nat) x p,n.Elements[i]? = some x→p∈x.From→0≤p.Element∧p.Element<i∧∃y,n.Elements[p.Element.toNat]? = some y∧0≤p.Outlet∧p.Outlet<outl y∧x.Level≤y.Level
 dist:(n.Elements.flatMap fun x=>x.From.map pq).Nodup
theorem Qvw {els:List Qaf}{i:Nat}{lv:Int}:∀{l:List Qbn}{u:List (Int×Int)},Qj0 els i lv u l=true→u.Nodup →
  (u++l.map pq).Nodup∧∀p∈l,0≤p.Element∧p.Element<i∧∃y,els[p.Element.toNat]? = some y∧0≤p.Outlet∧p.Outlet<outl y∧lv≤y.Level
 |[],u,_,hu=>⟨by simpa using hu,by simp⟩
 |p::l,u,h,hu=>by
  rw[Qj0,Bool.and_eq_true] at h
  obtain⟨h1,h2⟩:=h
  rw[Q6j,Bool.and_eq_true,Bool.and_eq_true] at h1
  obtain⟨⟨h3,h4⟩,h5⟩:=h1
  have hn:pq p∉u:=by simpa using h5
  have hu':(u++[pq p]).Nodup:=by
   rw[List.nodup_append]
   exact⟨hu,by simp,fun a ha b hb=>by simp at hb;subst hb;exact fun e=>hn (e▸ha)⟩
  obtain⟨k1,k2⟩:=Qvw h2 hu'
  refine⟨by rw[List.map_cons];rw[List.append_assoc] at k1;exact k1,fun q hq=>?_⟩
  rcases List.mem_cons.1 hq with rfl |hq
  ·obtain⟨b1,b2⟩:=Qf4.1 h3
   cases hg:getI els q.Element with
   |none=>rw[hg] at h4;cases h4
   |some y=>
    rw[hg] at h4
    simp only[Bool.and_eq_true,decide_eq_true_eq] at h4
    obtain⟨c1,c2⟩:=Qf4.1 h4.1
    exact⟨b1,by omega,y,(Q2b hg).2,c1,by omega,h4.2⟩
  ·exact k2 q hq
theorem Q2h {t:Int}{els:List Qaf}:∀{l:List Qaf}{i:Nat}{u:List (Int×Int)},Qwn t els i u l=true→u.Nodup →
  (u++l.flatMap fun x=>x.From.map pq).Nodup∧(∀x∈l,0≤x.Level∧x.Level≤t-1)∧∀(j:Nat) x p,l[j]? = some x→p∈x.From→0≤p.Element∧p.Element<(i:Int)+j∧∃y,els[p.Element.toNat]? = some y∧0≤p.Outlet∧p.Outlet<outl y∧x.Level≤y.Level
 |[],i,u,_,hu=>⟨by simpa using hu,by simp,fun j x p h=>by simp at h⟩
 |x::l,i,u,h,hu=>by
  rw[Qwn,Bool.and_eq_true,Bool.and_eq_true] at h
  obtain⟨⟨h1,h2⟩,h3⟩:=h
  obtain⟨k1,k2⟩:=Qvw h2 hu
  obtain⟨m1,m2,m3⟩:=Q2h h3 k1
  refine⟨by rw[List.flatMap_cons];rw[List.append_assoc] at m1;exact m1,fun y hy=>?_,fun j y p hj hp=>?_⟩
  ·rcases List.mem_cons.1 hy with rfl |hy
   ·exact Qf4.1 h1
   ·exact m2 y hy
  ·cases j with
   |zero=>
    simp at hj
    subst hj
    obtain⟨a,b,c⟩:=k2 p hp
    exact⟨a,by omega,c⟩
   |succ j=>
    obtain⟨a,b,c⟩:=m3 j y p (by simpa using hj) hp
    exact⟨a,by omega,c⟩
theorem Qv5 {n:GNet}(h:netB n=true):NetV n:=by
 unfold netB at h
 simp only[Bool.and_eq_true] at h
 obtain⟨⟨⟨h1,h2⟩,h3⟩,h4⟩:=h
 obtain⟨k1,k2,k3⟩:=Q2h h4 List.nodup_nil
 have:=Qf4.1 h2
 exact⟨h1,⟨by omega,by omega⟩,fun x hx=>List.all_eq_true.1 h3 x hx,k2,fun i x p hi hp=>by
  obtain⟨a,b,c⟩:=k3 i x p hi hp
  exact⟨a,by omega,c⟩,by simpa using k1⟩
def Q1s:Nat→List Qaf→List Qbn
 |_,[]=>[]
 |i,x::l=>(List.range (outl x).toNat).map (fun k:Nat=>(⟨(i:Int),(k:Int)⟩:Qbn))++Q1s (i+1) l
def Zss (n:GNet):List (Int×Int):=n.Elements.flatMap fun x=>x.From.map pq
def Zop (n:GNet):List Qbn:=(Q1s 0 n.Elements).filter fun p=>!(Zss n).contains (pq p)
section
variable {N : Nat} {n : GNet} (hs : Qim n) (hv : NetV n) (hN : 1001 ≤ N)
include hs hN in
include hs hv hN in
include hs hN in
include hs hv hN in
end
def stB (n:GNet) (s:List Int):Bool:=decide (s.length=n.Elements.length)&&s.all fun x=>btw x 0 1000000000000
theorem Zcg {N:Nat}{n:GNet}(hs:Qim n) (hN:1001≤N) {s:List Int}(hl:s.length≤1000):Qjj N n s=some (bif netB n&&stB n s then 0 else 1):=by
 have hc:Qc3 N s=some (s.any fun x=>!btw x 0 1000000000000):=by
  unfold Qc3 Qeq Qbc
  refine Qjm (F:=Qb6 N s fun _=>some (-1)) (k:=fun _=>some (-1)) (q:=Qhq N) (fun n y=>rfl) (fun x=>?_) rfl (by omega) (by omega)
  simp only[Qhq,Qku,Qkg,Option.bind_some]
 unfold Qjj Qj2 stB
 rw[Zdf hs hN,hc]
 simp only[Option.bind_some,Qw3]
 cases netB n with
 |false=>rfl
 |true=>
  by_cases h1:s.length=n.Elements.length
  ·rw[decide_eq_true h1,show((s.length:Int) != (n.Elements.length:Int))=false by rw[bne_eq_false_iff_eq];omega]
   cases s.all fun x=>btw x 0 1000000000000<;>rfl
  ·rw[decide_eq_false h1,show((s.length:Int) != (n.Elements.length:Int))=true by rw[bne_iff_ne];omega];rfl
def widI (x:Qaf) (d:Int):Int:=if x.Wide-d/x.Narrow>0 then x.Wide-d/x.Narrow else 0
theorem Zkx {x:Qaf}(hx:Qil x=true) {d:Int}(h0:0≤d) (h1:d≤9000000000000000000):(x.Narrow != 0)=true∧d.tdiv x.Narrow=d/x.Narrow∧0≤d/x.Narrow∧d/x.Narrow≤d∧w64 (d/x.Narrow)=d/x.Narrow∧w64 (x.Wide-d/x.Narrow)=x.Wide-d/x.Narrow∧0≤x.Wide∧x.Wide≤1000000∧1≤x.Narrow:=by
 unfold Qil at hx
 simp only[Bool.and_eq_true] at hx
 obtain⟨⟨⟨⟨⟨_,hw⟩,hn⟩,_⟩,_⟩,_⟩:=hx
 obtain⟨w0,w1⟩:=Qf4.1 hw
 obtain⟨n0,n1⟩:=Qf4.1 hn
 have a:=Int.ediv_nonneg h0 (show 0≤x.Narrow by omega)
 have b:=Int.ediv_le_self x.Narrow h0
 exact⟨by rw[bne_iff_ne];omega,Int.tdiv_eq_ediv_of_nonneg h0,a,b,Qbh (by omega) (by omega),Qbh (by omega) (by omega),w0,w1,n0⟩
theorem Zb1 (N:Nat) {x:Qaf}(hx:Qil x=true) {d:Int}(h0:0≤d) (h1:d≤9000000000000000000):Qgr N x d=some (widI x d):=by
 obtain⟨a,b,c,e,f,g,_⟩:=Zkx hx h0 h1
 unfold Qgr widI
 rw[a,b,f,g]
 rfl
end
section
def zs:Qaa:=⟨0,0,0,0⟩
def Qe4 (t:List GRow) (l:Int):GRow:=(getI t l).getD ⟨0,0,0,0,0⟩
def Qn9 (x:Qaf) (s:Qaa):Int:=if s.Heat<x.Amount then s.Heat else x.Amount
def actE (t:List GRow) (x:Qaf) (s:Qaa):List Qaa×Qa1×Int:=
 if x.Kind=3 then([⟨s.Mass,s.Heat-Qn9 x s,s.Silica,s.Gas⟩],⟨Qn9 x s,0,0,0⟩,0)
 else if x.Kind=4 then
  if x.Amount=0 then([(flG (Qe4 t x.Level) s).Steam,(flG (Qe4 t x.Level) s).Water],⟨0,0,0,(flG (Qe4 t x.Level) s).Scale⟩,(flG (Qe4 t x.Level) s).Steam.Mass)
  else([totS [(flG (Qe4 t x.Level) s).Steam,(Qhi (flG (Qe4 t x.Level) s).Water [1000-x.Amount,x.Amount]).getD 1 zs],(Qhi (flG (Qe4 t x.Level) s).Water [1000-x.Amount,x.Amount]).getD 0 zs],
   ⟨(Qj5 (flG (Qe4 t x.Level) s).Water [1000-x.Amount,x.Amount]).Heat,(Qj5 (flG (Qe4 t x.Level) s).Water [1000-x.Amount,x.Amount]).Silica,(Qj5 (flG (Qe4 t x.Level) s).Water [1000-x.Amount,x.Amount]).Gas,(flG (Qe4 t x.Level) s).Scale⟩,(flG (Qe4 t x.Level) s).Steam.Mass)
 else if x.Kind=5 then(Qhi s x.Weights,⟨(Qj5 s x.Weights).Heat,(Qj5 s x.Weights).Silica,(Qj5 s x.Weights).Gas,0⟩,0)
 else([s],⟨0,0,0,0⟩,0)
structure Zo7 (x:Qaf) (s:Qaa) (a:List Qaa×Qa1×Int):Prop where
 v:∀y∈a.1,StrV y
 len:(a.1.length:Int)=outl x
 m:(totS a.1).Mass=s.Mass
 h:(totS a.1).Heat+a.2.1.Heat=s.Heat
 q:(totS a.1).Silica+a.2.1.Silica+a.2.1.Scale=s.Silica
 g:(totS a.1).Gas+a.2.1.Gas=s.Gas
 h0:0≤a.2.1.Heat
 q0:0≤a.2.1.Silica
 g0:0≤a.2.1.Gas
 c0:0≤a.2.1.Scale
 t0:0≤a.2.2
 t1:a.2.2≤1000000
structure Zlc (x:Qaf):Prop where
 k:1≤x.Kind∧x.Kind≤6
 well:x.Kind=1→x.From=[]
 a3:x.Kind=3→0≤x.Amount
 a4:x.Kind=4→0≤x.Amount∧x.Amount≤1000
 w5:x.Kind=5→WtsV x.Weights
theorem Qpl {x:Qaf}(h:Qil x=true):Zlc x:=by
 unfold Qil at h
 simp only[Bool.and_eq_true] at h
 obtain⟨⟨⟨⟨⟨h1,_⟩,_⟩,h4⟩,h5⟩,h6⟩:=h
 refine⟨Qf4.1 h1,fun e=>?_,fun e=>?_,fun e=>?_,fun e=>?_⟩
 ·rw[e] at h4
  obtain⟨_,h7⟩:=Qf4.1 h4
  rw[if_pos rfl] at h7
  exact List.length_eq_zero_iff.1 (by omega)
 ·rw[e] at h5
  have:=Qf4.1 h5
  exact this.1
 ·rw[e] at h5
  have:=Qf4.1 h5
  simpa using this
 ·rw[e] at h6
  exact Zmc (by simpa using h6)
theorem Q3s {a:Int}(h0:0<a) (h1:a≤1000):WtsV [1000-a,a]:=
 ⟨by simp,by simp,fun x hx=>by simp at hx;rcases hx with rfl |rfl<;>omega,⟨a,by simp,h0⟩⟩
theorem Qvg {s:Qaa}{a b:Int}:∃p q,Qhi s [a,b]=[p,q]:=by
 have:(Qhi s [a,b]).length=2:=by unfold Qhi;rw[List.length_map,Qhf];rfl
 match h:Qhi s [a,b],this with
 |[p,q],_=>exact⟨p,q,rfl⟩
theorem Q7r {t:List GRow}(ht:tabB t=true) {x:Qaf}(hx:Zlc x) (hl:0≤x.Level∧x.Level≤(t.length:Int)-1) {s:Qaa}(hs:StrV s):Zo7 x s (actE t x s):=by
 have hs':=hs
 obtain⟨a1,a2,a3,a4,a5,a6,a7,a8⟩:=hs'
 unfold actE
 by_cases h3:x.Kind=3
 ·rw[if_pos h3]
  have hc:0≤Qn9 x s∧Qn9 x s≤s.Heat:=by
   have:=hx.a3 h3
   unfold Qn9;split<;>omega
  refine⟨fun y hy=>?_,?_,?_,?_,?_,?_,?_,?_,?_,?_,?_,?_⟩
  ·simp at hy;subst hy
   exact⟨a1,a2,by dsimp only;omega,by dsimp only;omega,a5,a6,a7,a8⟩
  ·simp[outl,h3]
  all_goals (try rw[Qnw])
  all_goals (dsimp only;omega)
 ·rw[if_neg h3]
  by_cases h4:x.Kind=4
  ·rw[if_pos h4]
   have hrow:=(Q6f ht (Qf4.2 hl)).2
   have hk:=Qz5 (r:=Qe4 t x.Level) hrow hs
   generalize flG (Qe4 t x.Level) s=p at hk
   obtain⟨k1,k2,k3,k4,k5,k6,k7,k8⟩:=hk
   have k1':=k1
   obtain⟨b1,b2,b3,b4,b5,b6,b7,b8⟩:=k1'
   have k2':=k2
   obtain⟨c1,c2,c3,c4,c5,c6,c7,c8⟩:=k2'
   by_cases h0:x.Amount=0
   ·rw[if_pos h0]
    refine⟨fun y hy=>?_,?_,?_,?_,?_,?_,?_,?_,?_,?_,?_,?_⟩
    ·simp at hy;rcases hy with rfl |rfl<;>assumption
    ·simp[outl,h4]
    all_goals (try rw[Qne,Qnw])
    all_goals (dsimp only;omega)
   ·rw[if_neg h0]
    have ha:=hx.a4 h4
    have hw:=Q3s (a:=x.Amount) (by omega) ha.2
    obtain⟨u,v,hp⟩:=Qvg (s:=p.Water) (a:=1000-x.Amount) (b:=x.Amount)
    have hK:=Qjl k2 hw
    rw[hp] at hK ⊢
    simp only[show([u,v]:List Qaa).getD 1 zs=v from rfl,show([u,v]:List Qaa).getD 0 zs=u from rfl]
    generalize Qj5 p.Water [1000-x.Amount,x.Amount]=L at hK ⊢
    obtain⟨d0,d1,d2,d3,d4,d5,d6,d7⟩:=hK
    have hu:=d0 u (by simp)
    have hv:=d0 v (by simp)
    rw[Qne,Qnw] at d1 d2 d3 d4
    dsimp only at d1 d2 d3 d4
    obtain⟨e1,e2,e3,e4,e5,e6,e7,e8⟩:=hu
    obtain⟨f1,f2,f3,f4,f5,f6,f7,f8⟩:=hv
    have et:totS [p.Steam,v]=⟨p.Steam.Mass+v.Mass,p.Steam.Heat+v.Heat,p.Steam.Silica+v.Silica,p.Steam.Gas+v.Gas⟩:=by rw[Qne,Qnw]
    rw[et]
    refine⟨fun y hy=>?_,?_,?_,?_,?_,?_,?_,?_,?_,?_,?_,?_⟩
    ·simp at hy
     rcases hy with rfl |rfl
     ·refine⟨?_,?_,?_,?_,?_,?_,?_,?_⟩<;>dsimp only<;>omega
     ·exact⟨e1,e2,e3,e4,e5,e6,e7,e8⟩
    ·simp[outl,h4]
    all_goals (try rw[Qne,Qnw])
    all_goals (dsimp only;omega)
  ·rw[if_neg h4]
   by_cases h5:x.Kind=5
   ·rw[if_pos h5]
    have hw:=hx.w5 h5
    have hK:=Qjl hs hw
    have hlen:(Qhi s x.Weights).length=x.Weights.length:=by unfold Qhi;rw[List.length_map,Qhf]
    generalize Qhi s x.Weights=o at hK hlen ⊢
    generalize Qj5 s x.Weights=L at hK ⊢
    obtain⟨d0,d1,d2,d3,d4,d5,d6,d7⟩:=hK
    refine⟨d0,by simp[outl,h5,hlen],d1,d2,?_,d4,d5,d6,d7,?_,?_,?_⟩<;>dsimp only<;>omega
   ·rw[if_neg h5]
    refine⟨fun y hy=>?_,?_,?_,?_,?_,?_,?_,?_,?_,?_,?_,?_⟩
    ·simp at hy;subst hy;exact hs
    ·simp[outl,h4,h5]
    all_goals (try rw[Qnw])
    all_goals (dsimp only;omega)
def Qg8 (o:List (List Qaa)) (p:Qbn):Qaa:=((o.getD p.Element.toNat []).getD p.Outlet.toNat zs)
def insE (o:List (List Qaa)) (ws:List Qaa) (x:Qaf):List Qaa:=if x.Kind=1 then ws.take 1 else x.From.map (Qg8 o)
def Qst (t:List GRow):List (Qaf×Int)→List Qaa→List (List Qaa)→List Qa1→List Int→Int→Nat⊕(List (List Qaa)×List Qa1×List Int×Int)
 |[],_,o,ls,ss,y=>.inr (o,ls,ss,y)
 |(x,d)::l,ws,o,ls,ss,y=>
  if (totS (insE o ws x)).Mass>widI x d then .inl o.length
  else Qst t l (if x.Kind=1 then ws.drop 1 else ws) (o++[(actE t x (totS (insE o ws x))).1]) (ls++[(actE t x (totS (insE o ws x))).2.1]) (ss++[d+(actE t x (totS (insE o ws x))).2.1.Scale]) (y+(actE t x (totS (insE o ws x))).2.2)
def Qke (n:GNet) (i:Nat):List (Int×Int):=(n.Elements.take i).flatMap fun x=>x.From.map pq
def wcn (n:GNet) (i:Nat):Nat:=((n.Elements.take i).filter fun x=>decide (x.Kind=1)).length
structure FedV (n:GNet) (ws:List Qaa):Prop where
 len:ws.length=wcn n n.Elements.length
 v:∀s∈ws,StrV s
 m:(totS ws).Mass≤1000000
 g:(totS ws).Gas≤1000000000
structure InvT (n:GNet) (ws:List Qaa) (i:Nat) (o:List (List Qaa)) (ls:List Qa1):Prop where
 lo:o.length=i
 ll:ls.length=i
 rows:∀(k:Nat) y r,n.Elements[k]? = some y→o[k]? = some r→(r.length:Int)=outl y
 v:∀r∈o,∀s∈r,StrV s
 m:Qh8 (fun s=>s.Mass) (Qke n i) (Qii 0 o)=(totS (ws.take (wcn n i))).Mass
 h:Qh8 (fun s=>s.Heat) (Qke n i) (Qii 0 o)+(ls.map fun l=>l.Heat).sum=(totS (ws.take (wcn n i))).Heat
 q:Qh8 (fun s=>s.Silica) (Qke n i) (Qii 0 o)+(ls.map fun l=>l.Silica).sum+(ls.map fun l=>l.Scale).sum=(totS (ws.take (wcn n i))).Silica
 g:Qh8 (fun s=>s.Gas) (Qke n i) (Qii 0 o)+(ls.map fun l=>l.Gas).sum=(totS (ws.take (wcn n i))).Gas
 l0:∀l∈ls,0≤l.Heat∧0≤l.Silica∧0≤l.Gas∧0≤l.Scale
theorem Qwd (n:GNet) (ws:List Qaa):InvT n ws 0 [] []:=
 ⟨rfl,rfl,fun k y r _ h=>by simp at h,fun r h=>by simp at h,by simp[Qh8,Qii,wcn,totS],by simp[Qh8,Qii,wcn,totS],by simp[Qh8,Qii,wcn,totS],by simp[Qh8,Qii,wcn,totS],fun l h=>by simp at h⟩
theorem Qmx {α:Type}{l:List α}{i:Nat}{x:α}(h:l[i]? = some x):l.take (i+1)=l.take i++[x]:=by rw[List.take_add_one,h];rfl
theorem Q3r {n:GNet}{i:Nat}{x:Qaf}(h:n.Elements[i]? = some x):Qke n (i+1)=Qke n i++x.From.map pq:=by
 unfold Qke
 rw[Qmx h,List.flatMap_append]
 simp
theorem Qnv {n:GNet}{i:Nat}{x:Qaf}(h:n.Elements[i]? = some x):wcn n (i+1)=wcn n i+if x.Kind=1 then 1 else 0:=by
 unfold wcn
 rw[Qmx h,List.filter_append,List.length_append]
 by_cases hk:x.Kind=1<;>simp[hk]
theorem Q6a {n:GNet}{i:Nat}:wcn n i≤wcn n n.Elements.length:=by
 unfold wcn
 rw[List.take_length]
 exact((List.take_sublist i n.Elements).filter _).length_le
section
variable {n : GNet} (hv : NetV n) {ws : List Qaa} (hf : FedV n ws) {i : Nat} {o : List (List Qaa)} {ls : List Qa1} (hI : InvT n ws i o ls) {x : Qaf} (hx : n.Elements[i]? = some x)
include hv hI hx in
theorem Qps {p:Qbn}(hp:p∈x.From):(pq p,Qg8 o p)∈Qii 0 o∧StrV (Qg8 o p)∧(∃r,o[p.Element.toNat]? = some r∧r[p.Outlet.toNat]? = some (Qg8 o p)):=by
 obtain⟨h1,h2,y,h3,h4,h5,_⟩:=hv.port i x p hx hp
 have hlt:p.Element.toNat<o.length:=by rw[hI.lo];omega
 have hr:o[p.Element.toNat]? = some (o[p.Element.toNat]):=List.getElem?_eq_getElem hlt
 have hl:=hI.rows _ y _ h3 hr
 have hlt2:p.Outlet.toNat<(o[p.Element.toNat]).length:=by omega
 have hs:(o[p.Element.toNat])[p.Outlet.toNat]? = some ((o[p.Element.toNat])[p.Outlet.toNat]):=List.getElem?_eq_getElem hlt2
 have e:Qg8 o p=(o[p.Element.toNat])[p.Outlet.toNat]:=by
  unfold Qg8
  rw[List.getD_eq_getElem?_getD,List.getD_eq_getElem?_getD,hr,Option.getD_some,hs,Option.getD_some]
 rw[e]
 refine⟨Qpf.2 ⟨by simpa using h1,h4,_,?_,hs⟩,hI.v _ (List.getElem_mem hlt) _ (List.getElem_mem hlt2),_,hr,hs⟩
 rw[show(p.Element-((0:Nat):Int)).toNat=p.Element.toNat by simp]
 exact hr
include hv hx in
theorem Q80:(x.From.map pq).Nodup∧∀p∈x.From.map pq,p∉Qke n i:=by
 have hd:=hv.dist
 have hi:=(List.getElem?_eq_some_iff.1 hx).1
 have e:n.Elements=n.Elements.take i++x::n.Elements.drop (i+1):=by
  rw[←List.take_append_drop i n.Elements]
  congr 1
  ·simp
  ·rw[List.take_append_drop,List.drop_eq_getElem_cons hi]
   rw[List.getElem?_eq_getElem hi] at hx
   cases hx
   rfl
 rw[e,List.flatMap_append,List.flatMap_cons,List.nodup_append,List.nodup_append] at hd
 obtain⟨_,⟨h2,_,_⟩,h3⟩:=hd
 exact⟨h2,fun p hp hu=>h3 p hu p (List.mem_append_left _ hp) rfl⟩
include hv hI hx in
theorem Qvi (f:Qaa→Int):Qh8 f (Qke n (i+1)) (Qii 0 o)=Qh8 f (Qke n i) (Qii 0 o)-((x.From.map (Qg8 o)).map f).sum:=by
 obtain⟨h1,h2⟩:=Q80 hv hx
 rw[Q3r hx,Qv3 (V:=x.From.map pq++Qke n i) (fun y _=>by simp[or_comm])]
 refine Qv2 f (Qwl o 0) _ _ _ (by simp) (fun j p s hp hs=>?_) h1 h2
 rw[List.getElem?_map,Option.map_eq_some_iff] at hp hs
 obtain⟨a,ha,rfl⟩:=hp
 obtain⟨b,hb,rfl⟩:=hs
 rw[ha] at hb
 cases hb
 exact(Qps hv hI hx (List.mem_of_getElem? ha)).1
include hv in
theorem Zhb (f:Qaa→Int) (r:List Qaa) (hlo:o.length=i):Qh8 f (Qke n (i+1)) (Qii 0 (o++[r]))=Qh8 f (Qke n (i+1)) (Qii 0 o)+(r.map f).sum:=by
 rw[Qt2,Q1z,Nat.zero_add,hlo,Q2g]
 congr 1
 refine Q1y f (fun p hp=>?_) r 0
 unfold Qke at hp
 obtain⟨y,hy,hp⟩:=List.mem_flatMap.1 hp
 obtain⟨q,hq,rfl⟩:=List.mem_map.1 hp
 obtain⟨k,hk,e⟩:=List.mem_take_iff_getElem.1 hy
 have:=(hv.port k y q (by rw[←e];exact List.getElem?_eq_getElem (by omega)) hq).2.1
 intro he
 have:(pq q).1=q.Element:=rfl
 omega
include hI in
theorem Zc5 (f:Qaa→Int) (hf0:∀s,StrV s→0≤f s) (U:List (Int×Int)):0≤Qh8 f U (Qii 0 o):=by
 refine Qtw fun y hy=>?_
 obtain⟨⟨a,b⟩,s⟩:=y
 obtain⟨_,_,r,h1,h2⟩:=Qpf.1 hy
 exact hf0 _ (hI.v r (List.mem_of_getElem? h1) s (List.mem_of_getElem? h2))
include hf in
theorem Q6b (k:Nat):(totS (ws.take k)).Mass≤1000000∧(totS (ws.take k)).Gas≤1000000000:=by
 have h:=Q3t (ws.take k) (ws.drop k)
 rw[List.take_append_drop] at h
 have hm:=hf.m
 have hg:=hf.g
 rw[h] at hm hg
 have hd:=Qo0 fun s hs=>hf.v s (List.mem_of_mem_drop (i:=k) hs)
 have:=hd.m0
 have:=hd.g0
 dsimp only at hm hg
 omega
theorem Qqc {α:Type}(f:α→Int):∀(l:List α),(∀x∈l,0≤f x)→0≤(l.map f).sum
 |[],_=>by simp
 |x::l,h=>by
  have h1:=Qqc f l fun y hy=>h y (List.mem_cons_of_mem x hy)
  have h2:=h x List.mem_cons_self
  simp only[List.map_cons,List.sum_cons]
  omega
include hv hf hI hx in
theorem Zdy:(∀s∈insE o (ws.drop (wcn n i)) x,StrV s)∧StrV (totS (insE o (ws.drop (wcn n i)) x)):=by
 have hxm:=List.mem_of_getElem? hx
 by_cases h1:x.Kind=1
 ·have e:insE o (ws.drop (wcn n i)) x=(ws.drop (wcn n i)).take 1:=by unfold insE;rw[if_pos h1]
  rw[e]
  have hw:=Qnv hx
  rw[if_pos h1] at hw
  have hle:=Q6a (n:=n) (i:=i+1)
  have hlt:wcn n i<ws.length:=by rw[hf.len];omega
  rw[List.drop_eq_getElem_cons hlt]
  have hs:=hf.v _ (List.getElem_mem hlt)
  rw[List.take_succ_cons,List.take_zero,Qnw]
  exact⟨fun s h=>by rw[List.mem_singleton] at h;rw[h];exact hs,hs⟩
 ·have e:insE o (ws.drop (wcn n i)) x=x.From.map (Qg8 o):=by unfold insE;rw[if_neg h1]
  rw[e]
  have hall:∀s∈x.From.map (Qg8 o),StrV s:=fun s hs=>by
   obtain⟨p,hp,rfl⟩:=List.mem_map.1 hs
   exact(Qps hv hI hx hp).2.1
  refine⟨hall,Zgn hall ?_ ?_⟩
  ·have h2:=Qvi hv hI hx (fun s=>s.Mass)
   have h3:=Zc5 hI (fun s=>s.Mass) (fun s hs=>hs.m0) (Qke n (i+1))
   have h4:=(Q6b hf (wcn n i)).1
   rw[←hI.m] at h4
   show((x.From.map (Qg8 o)).map fun s=>s.Mass).sum≤_
   omega
  ·have h2:=Qvi hv hI hx (fun s=>s.Gas)
   have h3:=Zc5 hI (fun s=>s.Gas) (fun s hs=>hs.g0) (Qke n (i+1))
   have h4:=(Q6b hf (wcn n i)).2
   have h5:=Qqc (fun l:Qa1=>l.Gas) ls fun l hl=>(hI.l0 l hl).2.2.1
   rw[←hI.g] at h4
   show((x.From.map (Qg8 o)).map fun s=>s.Gas).sum≤_
   omega
include hv hf hI hx in
theorem Qur (f:Qaa→Int) (hf1:∀l m:List Qaa,((l++m).map f).sum=(l.map f).sum+(m.map f).sum) (r:List Qaa) :
  Qh8 f (Qke n (i+1)) (Qii 0 (o++[r]))=Qh8 f (Qke n i) (Qii 0 o)+((ws.take (wcn n (i+1))).map f).sum-((ws.take (wcn n i)).map f).sum-((insE o (ws.drop (wcn n i)) x).map f).sum+(r.map f).sum:=by
 rw[Zhb hv f r hI.lo,Qvi hv hI hx f]
 by_cases h1:x.Kind=1
 ·have e:insE o (ws.drop (wcn n i)) x=(ws.drop (wcn n i)).take 1:=by unfold insE;rw[if_pos h1]
  have hw:=Qnv hx
  rw[if_pos h1] at hw
  have hle:=Q6a (n:=n) (i:=i+1)
  have hlt:wcn n i<ws.length:=by rw[hf.len];omega
  have hfr:=(Qpl (hv.alone x (List.mem_of_getElem? hx))).well h1
  rw[e,hfr,hw,Qmx (List.getElem?_eq_getElem hlt),hf1,List.drop_eq_getElem_cons hlt]
  simp only[List.map_nil,List.sum_nil,List.take_succ_cons,List.take_zero,List.map_cons,List.sum_cons]
  omega
 ·have e:insE o (ws.drop (wcn n i)) x=x.From.map (Qg8 o):=by unfold insE;rw[if_neg h1]
  have hw:=Qnv hx
  rw[if_neg h1] at hw
  rw[e,hw,Nat.add_zero]
  omega
include hv hf hI hx in
theorem Qz2 {a:List Qaa×Qa1×Int}(ha:Zo7 x (totS (insE o (ws.drop (wcn n i)) x)) a):InvT n ws (i+1) (o++[a.1]) (ls++[a.2.1]):=by
 obtain⟨k1,k2,k3,k4,k5,k6,k7,k8,k9,k10,_,_⟩:=ha
 have sa:∀f:Qaa→Int,∀l m:List Qaa,((l++m).map f).sum=(l.map f).sum+(m.map f).sum:=fun f l m=>by simp
 refine⟨by simp[hI.lo],by simp[hI.ll],fun k y r hy hr=>?_,fun r hr s hs=>?_,?_,?_,?_,?_,fun l hl=>?_⟩
 ·by_cases hk:k<i
  ·rw[List.getElem?_append_left (by rw[hI.lo];exact hk)] at hr
   exact hI.rows k y r hy hr
  ·rw[List.getElem?_append_right (by rw[hI.lo];omega),hI.lo] at hr
   have:k=i:=by
    have:=(List.getElem?_eq_some_iff.1 hr).1
    simp at this
    omega
   subst this
   rw[hx] at hy
   cases hy
   simp at hr
   subst hr
   exact k2
 ·rcases List.mem_append.1 hr with hr |hr
  ·exact hI.v r hr s hs
  ·simp at hr;subst hr;exact k1 s hs
 ·rw[Qur hv hf hI hx _ (sa _),hI.m]
  have e1:(a.1.map fun s=>s.Mass).sum=(totS a.1).Mass:=rfl
  have e2:((insE o (ws.drop (wcn n i)) x).map fun s=>s.Mass).sum=(totS (insE o (ws.drop (wcn n i)) x)).Mass:=rfl
  have e3:∀k,((ws.take k).map fun s=>s.Mass).sum=(totS (ws.take k)).Mass:=fun _=>rfl
  rw[e1,e2,e3,e3]
  omega
 ·rw[Qur hv hf hI hx _ (sa _)]
  have e1:(a.1.map fun s=>s.Heat).sum=(totS a.1).Heat:=rfl
  have e2:((insE o (ws.drop (wcn n i)) x).map fun s=>s.Heat).sum=(totS (insE o (ws.drop (wcn n i)) x)).Heat:=rfl
  have e3:∀k,((ws.take k).map fun s=>s.Heat).sum=(totS (ws.take k)).Heat:=fun _=>rfl
  have h:=hI.h
  rw[e1,e2,e3,e3,List.map_append,List.sum_append]
  simp only[List.map_cons,List.map_nil,List.sum_cons,List.sum_nil]
  omega
 ·rw[Qur hv hf hI hx _ (sa _)]
  have e1:(a.1.map fun s=>s.Silica).sum=(totS a.1).Silica:=rfl
  have e2:((insE o (ws.drop (wcn n i)) x).map fun s=>s.Silica).sum=(totS (insE o (ws.drop (wcn n i)) x)).Silica:=rfl
  have e3:∀k,((ws.take k).map fun s=>s.Silica).sum=(totS (ws.take k)).Silica:=fun _=>rfl
  have h:=hI.q
  rw[e1,e2,e3,e3,List.map_append,List.sum_append,List.map_append,List.sum_append]
  simp only[List.map_cons,List.map_nil,List.sum_cons,List.sum_nil]
  omega
 ·rw[Qur hv hf hI hx _ (sa _)]
  have e1:(a.1.map fun s=>s.Gas).sum=(totS a.1).Gas:=rfl
  have e2:((insE o (ws.drop (wcn n i)) x).map fun s=>s.Gas).sum=(totS (insE o (ws.drop (wcn n i)) x)).Gas:=rfl
  have e3:∀k,((ws.take k).map fun s=>s.Gas).sum=(totS (ws.take k)).Gas:=fun _=>rfl
  have h:=hI.g
  rw[e1,e2,e3,e3,List.map_append,List.sum_append]
  simp only[List.map_cons,List.map_nil,List.sum_cons,List.sum_nil]
  omega
 ·rcases List.mem_append.1 hl with hl |hl
  ·exact hI.l0 l hl
  ·simp at hl;subst hl;exact⟨k7,k8,k9,k10⟩
include hv hf hI hx in
theorem Qz3:Zo7 x (totS (insE o (ws.drop (wcn n i)) x)) (actE n.Table x (totS (insE o (ws.drop (wcn n i)) x))):=
 Q7r hv.tab (Qpl (hv.alone x (List.mem_of_getElem? hx))) (hv.level x (List.mem_of_getElem? hx)) (Zdy hv hf hI hx).2
end
end
section
def ofL (k:Int):Nat→List Qaf→List Int
 |_,[]=>[]
 |i,x::l=>if x.Kind=k then(i:Int)::ofL k (i+1) l else ofL k (i+1) l
theorem Qjc (k:Int):∀(l:List Qaf) (i:Nat),(ofL k i l).length=(l.filter fun x=>decide (x.Kind=k)).length
 |[],_=>rfl
 |x::l,i=>by
  rw[ofL,List.filter_cons]
  by_cases h:x.Kind=k
  ·rw[if_pos h,if_pos (by simpa using h),List.length_cons,List.length_cons,Qjc k l]
  ·rw[if_neg h,if_neg (by simpa using h),Qjc k l]
theorem Qzq (k:Int):∀(l:List Qaf) (i:Nat),∀z∈ofL k i l,(i:Int)≤z∧z<(i:Int)+l.length
 |[],_,z,h=>by simp[ofL] at h
 |x::l,i,z,h=>by
  rw[ofL] at h
  simp only[List.length_cons]
  by_cases hk:x.Kind=k
  ·rw[if_pos hk] at h
   rcases List.mem_cons.1 h with rfl |h
   ·omega
   ·have:=Qzq k l (i+1) z h;omega
  ·rw[if_neg hk] at h
   have:=Qzq k l (i+1) z h;omega
theorem Qxz (k:Int):∀(l m:List Qaf) (i:Nat),ofL k i (l++m)=ofL k i l++ofL k (i+l.length) m
 |[],m,i=>by simp[ofL]
 |x::l,m,i=>by
  rw[List.cons_append,ofL,ofL,Qxz k l m (i+1),List.length_cons,show i+1+l.length=i+(l.length+1) by omega]
  by_cases h:x.Kind=k
  ·rw[if_pos h,if_pos h,List.cons_append]
  ·rw[if_neg h,if_neg h]
section
variable {N : Nat} {n : GNet} (hs : Qim n) (hN : 1001 ≤ N)
include hs in
theorem Zm9 (k:Int) (c:List Int→Option (List Int)):∀(m i:Nat) (acc:List Int),(n.Elements.drop i).length<m→acc.length≤i→Qd0 N n k c m acc i=c (acc++ofL k i (n.Elements.drop i)):=by
 intro m
 induction m with
 |zero=>intro i _ h;cases h
 |succ m ih=>
  intro i acc h ha
  rw[Qd0]
  cases hd:n.Elements.drop i with
  |nil=>
   have:=Qbs hd
   simp[show ¬((i:Int)<n.Elements.length) from by omega,ofL]
  |cons x l=>
   obtain⟨hg,hd',hlt⟩:=Qbg hd
   have e0:=hs.e
   simp only[dlI hlt,cond_true,Qbu hg,Option.bind_some]
   rw[w64S (i:=i) (by omega),ofL]
   by_cases hk:x.Kind=k
   ·rw[show(x.Kind==k)=true by simpa using hk,cond_true,if_pos hk]
    simp only[chk]
    rw[show decide ((acc.length+[(i:Int)].length)*8≤140737488355328)=true by simp;omega,cond_true,ih (i+1) _ (dlt hd hd' h) (by simp;omega),hd',List.append_assoc]
    rfl
   ·rw[show(x.Kind==k)=false by simpa using hk,cond_false,if_neg hk,ih (i+1) _ (dlt hd hd' h) (by omega),hd']
include hs hN in
theorem Q6r (k:Int):Qg9 N n k=some (ofL k 0 n.Elements):=by
 have e0:=hs.e
 unfold Qg9
 simp only[Qbc]
 refine(Zm9 hs k _ N 0 [] (by simp;omega) (by simp)).trans ?_
 rw[List.drop_zero,List.nil_append]
theorem Q8z (P S:List Int) (p:Int) (hp:p∉P) (hl:P.length≤1000) (k:Unit→Option Int):∀(m i:Nat),P.length-i<m→i≤P.length→Qch N (P++p::S) k p m i=some (P.length:Int):=by
 intro m
 induction m with
 |zero=>intro i h;cases h
 |succ m ih=>
  intro i h hi
  rw[Qch]
  rw[show decide ((i:Int)<((P++p::S).length:Int))=true by simp;omega,cond_true]
  by_cases hlt:i<P.length
  ·have hg:(P++p::S)[i]? = some P[i]:=by rw[List.getElem?_append_left hlt,List.getElem?_eq_getElem hlt]
   rw[Qbu hg,Option.bind_some,show(p==P[i])=false by rw[beq_eq_false_iff_ne];intro e;exact hp (e▸List.getElem_mem hlt),cond_false,w64S (i:=i) (by omega)]
   exact ih (i+1) (by omega) (by omega)
  ·have e:i=P.length:=by omega
   subst e
   have hg:(P++p::S)[P.length]? = some p:=by rw[List.getElem?_append_right (Nat.le_refl _)];simp
   rw[Qbu hg,Option.bind_some,beq_self_eq_true,cond_true]
include hs hN in
theorem Zme {i:Nat}{x:Qaf}(hx:n.Elements[i]? = some x) (h1:x.Kind=1):Qfo N (ofL 1 0 n.Elements) i=some (wcn n i:Int):=by
 have hi:=(List.getElem?_eq_some_iff.1 hx).1
 have e0:=hs.e
 have e:n.Elements=n.Elements.take i++x::n.Elements.drop (i+1):=by
  have:n.Elements.drop i=x::n.Elements.drop (i+1):=by
   rw[List.drop_eq_getElem_cons hi]
   rw[List.getElem?_eq_getElem hi] at hx
   cases hx
   rfl
  rw[←this,List.take_append_drop]
 have hlt:(n.Elements.take i).length=i:=by rw[List.length_take];omega
 have e2:ofL 1 0 n.Elements=ofL 1 0 (n.Elements.take i)++(i:Int)::ofL 1 (i+1) (n.Elements.drop (i+1)):=by
  have e3:ofL 1 0 n.Elements=ofL 1 0 (n.Elements.take i++x::n.Elements.drop (i+1)):=congrArg (ofL 1 0) e
  rw[e3,Qxz,hlt,ofL,if_pos h1,Nat.zero_add]
 have hlen:(ofL 1 0 (n.Elements.take i)).length=wcn n i:=Qjc 1 _ 0
 have hb:wcn n i≤18:=by
  rw[←hlen,Qjc]
  have:=List.length_filter_le (fun x:Qaf=>decide (x.Kind=1)) (n.Elements.take i)
  omega
 unfold Qfo
 simp only[Qbc]
 rw[e2]
 have:=Q8z (N:=N) (ofL 1 0 (n.Elements.take i)) (ofL 1 (i+1) (n.Elements.drop (i+1))) (i:Int) (fun hm=>by
  have:=Qzq 1 _ 0 _ hm
  omega) (by omega) (fun _=>some (-1)) N 0 (by omega) (Nat.zero_le _)
 rw[hlen] at this
 exact this
theorem Qqd (k:List Qaa→Option (List Qaa)):∀(q y:List Qaa),y.length+q.length≤1000→Qax N k q y=k (y++q)
 |[],y,_=>by simp[Qax]
 |x::q,y,h=>by
  have hc:decide ((y.length+[x].length)*32≤140737488355328)=true:=by simp at h ⊢;omega
  rw[Qax]
  simp only[chk]
  rw[hc,cond_true,Qqd k q _ (by simp at h ⊢;omega)]
  simp
end
section
variable {N : Nat} {n : GNet} (hs : Qim n) (hN : 1001 ≤ N) (hv : NetV n) {ws : List Qaa} (hf : FedV n ws) {i : Nat} {o : List (List Qaa)} {ls : List Qa1} (hI : InvT n ws i o ls) {x : Qaf} (hx : n.Elements[i]? = some x)
include hv hI hx in
theorem Zdx (hfr:x.From.length≤1000) (R:List (List Qaa)):∀(m j:Nat),(x.From.drop j).length<m→Qdc N x (o++R) m j=some ((x.From.drop j).map (Qg8 o)):=by
 intro m
 induction m with
 |zero=>intro j h;cases h
 |succ m ih=>
  intro j h
  rw[Qdc]
  cases hd:x.From.drop j with
  |nil=>
   have:=Qbs hd
   simp[show ¬((j:Int)<x.From.length) from by omega]
  |cons p l=>
   obtain⟨hg,hd',hlt⟩:=Qbg hd
   have hpm:=List.mem_of_getElem? hg
   obtain⟨p1,_,_,_,p4,_,_⟩:=hv.port i x p hx hpm
   obtain⟨_,_,r,hr,hr2⟩:=Qps hv hI hx hpm
   have g1:getI (o++R) p.Element=some r:=by
    unfold getI
    rw[if_pos p1,List.getElem?_append_left (List.getElem?_eq_some_iff.1 hr).1,hr]
   have g2:getI r p.Outlet=some (Qg8 o p):=by
    unfold getI
    rw[if_pos p4,hr2]
   simp only[dlI hlt,cond_true,Qbu hg,Option.bind_some,g1,g2]
   rw[w64S (i:=j) (by omega),ih (j+1) (dlt hd hd' h),hd']
   rfl
include hs hN hv hf hI hx in
theorem Znf (R:List (List Qaa)) (L:List Qa1) (S:List Int) (y:Int):Qb0 N n.Table n.Elements (o++R) L S ws y i=some (insE o (ws.drop (wcn n i)) x):=by
 have hxs:=hs.x x (List.mem_of_getElem? hx)
 have hS:Qho N n.Table n.Elements (o++R) L S ws y i=some (insE o (ws.drop (wcn n i)) x):=by
  unfold Qho insE
  rw[Qbu hx,Option.bind_some]
  by_cases h1:x.Kind=1
  ·rw[show(x.Kind==1)=true by simpa using h1,cond_true,if_pos h1]
   have hw:=Qnv hx
   rw[if_pos h1] at hw
   have hle:=Q6a (n:=n) (i:=i+1)
   have hlt:wcn n i<ws.length:=by rw[hf.len];omega
   rw[Q6r hs hN 1,Option.bind_some,Zme hs hN hx h1,Option.bind_some,Qbu (List.getElem?_eq_getElem hlt),Option.bind_some,List.drop_eq_getElem_cons hlt]
   rfl
  ·rw[show(x.Kind==1)=false by simpa using h1,cond_false,if_neg h1]
   have:=Zdx (N:=N) hv hI hx (by omega) R N 0 (by simp;omega)
   rw[List.drop_zero] at this
   exact this
 unfold Qb0 Qb9
 simp only[Qbc,hS,Option.bind_some]
 have hlen:(insE o (ws.drop (wcn n i)) x).length≤100:=by
  unfold insE
  split
  ·rw[List.length_take];omega
  ·rw[List.length_map];omega
 rw[Qqd _ _ _ (by simp;omega)]
 rfl
end
theorem Qru {α:Type}{l:List α}{i:Nat}{x:α}(h:l[i]? = some x):l.set i x=l:=by
 obtain⟨h1,h2⟩:=List.getElem?_eq_some_iff.1 h
 subst h2
 exact List.set_getElem_self h1
section
variable {N : Nat} {n : GNet} (hN : 1001 ≤ N) (hv : NetV n) (ht : n.Table.length ≤ 1000) {i : Nat} {x : Qaf} (hx : n.Elements[i]? = some x) {s : Qaa} (hst : StrV s) {D nW : Nat} {ws : List Qaa} {y : Int} {O : List (List Qaa)} {Ls : List Qa1} {Ss : List Int} {d : Int}
 (hlo:i<D) (hLs:Ls[i]? = some ⟨0,0,0,0⟩) (hSs:Ss[i]? = some d) (hd0:0≤d) (hd1:d≤1000000000000000) (hO:∃r,O[i]? = some r) (hy0:0≤y) (hy1:y≤1000000000)
include hN hst hlo in
theorem Q1i {wts:List Int}(hw:WtsV wts) {l0:Qa1}(hL:Ls[i]? = some l0) (hl:i<Ls.length):Qft N i s wts n.Table n.Elements D D nW ws y O Ls Ss=some (Qhi s wts,Ls.set i ⟨(Qj5 s wts).Heat,(Qj5 s wts).Silica,(Qj5 s wts).Gas,l0.Scale⟩):=by
 have c1:(decide ((0:Int)≤(i:Int))&&decide (i<D))=true:=by simp;omega
 have e:∀q:Qa1,(Ls.set i q)[i]? = some q:=fun q=>List.getElem?_set_self hl
 unfold Qft
 rw[Zgy hst hw hN]
 simp only[Option.bind_some,chk,c1,cond_true,Int.toNat_natCast,hL,e,List.set_set]
include hN hv ht hx hst hlo hLs hSs hd0 hd1 hy0 hy1 in
theorem Q30 (hln:i<Ls.length) (h4:x.Kind=4):Qfq N i s n.Table n.Elements D D D ws y O Ls Ss=some ((actE n.Table x s).1,y+(actE n.Table x s).2.2,Ls.set i (actE n.Table x s).2.1,Ss.set i (d+(actE n.Table x s).2.1.Scale)):=by
 have hxm:=List.mem_of_getElem? hx
 have hA:=Qpl (hv.alone x hxm)
 have hlv:=hv.level x hxm
 have hrow:=(Q6f hv.tab (Qf4.2 hlv)).2
 have hk:=Qz5 (r:=Qe4 n.Table x.Level) hrow hst
 have hK:=Q7r hv.tab hA hlv hst
 have c1:(decide ((0:Int)≤(i:Int))&&decide (i<D))=true:=by simp;omega
 have ef:Q62 n.Table x.Level s=(flG (Qe4 n.Table x.Level) s,0):=by
  unfold Q62 Qe4
  rw[hv.tab,Qpo.2 hst,Qf4.2 hlv];rfl
 have hq1:=hst.s1
 have hm1:=hst.m1
 have cv:=Qo0 hK.v
 have:=cv.s0
 unfold Qfq
 simp only[Qbu hx,Option.bind_some,Zhj hN ht,ef,chk,c1,cond_true,Int.toNat_natCast,hLs,hSs]
 by_cases h0:x.Amount=0
 ·have ha:actE n.Table x s=([(flG (Qe4 n.Table x.Level) s).Steam,(flG (Qe4 n.Table x.Level) s).Water],⟨0,0,0,(flG (Qe4 n.Table x.Level) s).Scale⟩,(flG (Qe4 n.Table x.Level) s).Steam.Mass):=by
   unfold actE
   rw[if_neg (show ¬x.Kind=3 by omega),if_pos h4,if_pos h0]
  rw[ha] at hK
  obtain⟨_,_,_,_,cs,_,_,cq,_,cc,t0,t1⟩:=hK
  dsimp only at t0 t1 cs cc cq
  have:=hk.km
  have:=hk.wa.m0
  have:=hk.ks
  have:=hk.wa.s0
  rw[ha,show(x.Amount==0)=true by simpa using h0,cond_true]
  rw[Qbh (x:=y+_) (by omega) (by omega),Qbh (x:=d+_) (by omega) (by omega)]
 ·have ha:actE n.Table x s=([totS [(flG (Qe4 n.Table x.Level) s).Steam,(Qhi (flG (Qe4 n.Table x.Level) s).Water [1000-x.Amount,x.Amount]).getD 1 zs],(Qhi (flG (Qe4 n.Table x.Level) s).Water [1000-x.Amount,x.Amount]).getD 0 zs],
   ⟨(Qj5 (flG (Qe4 n.Table x.Level) s).Water [1000-x.Amount,x.Amount]).Heat,(Qj5 (flG (Qe4 n.Table x.Level) s).Water [1000-x.Amount,x.Amount]).Silica,(Qj5 (flG (Qe4 n.Table x.Level) s).Water [1000-x.Amount,x.Amount]).Gas,(flG (Qe4 n.Table x.Level) s).Scale⟩,(flG (Qe4 n.Table x.Level) s).Steam.Mass):=by
   unfold actE
   rw[if_neg (show ¬x.Kind=3 by omega),if_pos h4,if_neg h0]
  have hav:=hA.a4 h4
  have hw:=Q3s (a:=x.Amount) (by omega) hav.2
  have:=hk.km
  have:=hk.st.m0
  have:=hk.wa.m0
  have:=hk.ks
  have:=hk.wa.s0
  have:=hk.sc
  rw[ha,show(x.Amount==0)=false by simpa using h0,cond_false,Qbh (x:=y+_) (by omega) (by omega),Qbh (x:=d+_) (by omega) (by omega),Qbh (x:=1000-x.Amount) (by omega) (by omega)]
  have hsh:=Q1i (N:=N) (n:=n) (nW:=D) (ws:=ws) (y:=y+(flG (Qe4 n.Table x.Level) s).Steam.Mass) (O:=O) (Ss:=Ss.set i (d+(flG (Qe4 n.Table x.Level) s).Scale)) (Ls:=Ls.set i ⟨0,0,0,(flG (Qe4 n.Table x.Level) s).Scale⟩) (l0:=⟨0,0,0,(flG (Qe4 n.Table x.Level) s).Scale⟩) hN hk.wa hlo hw (List.getElem?_set_self hln) (by rw[List.length_set];exact hln)
  obtain⟨u,v,hp⟩:=Qvg (s:=(flG (Qe4 n.Table x.Level) s).Water) (a:=1000-x.Amount) (b:=x.Amount)
  have hKp:=Qjl hk.wa hw
  rw[hp] at hsh hKp ⊢
  have htot:Qgp N [(flG (Qe4 n.Table x.Level) s).Steam,v]=some (totS [(flG (Qe4 n.Table x.Level) s).Steam,v]):=by
   rw[Q3u (by simp) hN,Qqk (fun z hz=>by
    simp at hz
    rcases hz with rfl |rfl
    ·exact hk.st
    ·exact hKp.v _ (by simp)) (by simp)]
  refine(congrArg (fun z=>Option.bind z _) hsh).trans ?_
  simp only[Option.bind_some,show getI [u,v] 1=some v from rfl,show getI [u,v] 0=some u from rfl,List.set_set]
  exact congrArg (fun z=>Option.bind z _) htot
include hN hv ht hx hst hlo hLs hSs hd0 hd1 hO hy0 hy1 in
theorem Zoq (hln:i<Ls.length) (hD:D=O.length) (hDl:D=Ls.length) (hDs:D=Ss.length) {w:Int}(hw:s.Mass≤w) {ins:List Qaa}(hin:Qb0 N n.Table n.Elements O Ls Ss ws y i=some ins) (htot:Qgp N ins=some s) :
  Qcx N i w n.Table n.Elements D D D ws y O Ls Ss=some (.inl (y+(actE n.Table x s).2.2,O.set i (actE n.Table x s).1,Ls.set i (actE n.Table x s).2.1,Ss.set i (d+(actE n.Table x s).2.1.Scale))):=by
 have hxm:=List.mem_of_getElem? hx
 have hA:=Qpl (hv.alone x hxm)
 obtain⟨r,hr⟩:=hO
 have c1:(decide ((0:Int)≤(i:Int))&&decide (i<D))=true:=by simp;omega
 unfold Qcx
 simp only[Qhp,Option.bind_some,chk,Qbc,show decide (D≤O.length)=true by simp;omega,show decide (D≤Ls.length)=true by simp;omega,show decide (D≤Ss.length)=true by simp;omega,cond_true]
 rw[show O.take D=O from by rw[hD,List.take_length],show Ls.take D=Ls from by rw[hDl,List.take_length],show Ss.take D=Ss from by rw[hDs,List.take_length],hin,Option.bind_some,htot,Option.bind_some,decide_eq_false (show ¬s.Mass>w by omega),cond_false,Qbu hx,Option.bind_some]
 simp only[c1,cond_true,Int.toNat_natCast,hr,Option.bind_some,Qgg]
 have hpass:(actE n.Table x s)=([s],⟨0,0,0,0⟩,0)→(y,O.set i [s],Ls,Ss)=(y+(actE n.Table x s).2.2,O.set i (actE n.Table x s).1,Ls.set i (actE n.Table x s).2.1,Ss.set i (d+(actE n.Table x s).2.1.Scale)):=fun e=>by
  rw[e]
  simp only[Int.add_zero]
  rw[Qru hLs,Qru hSs]
 by_cases h1:x.Kind=1
 ·rw[h1]
  simp only[show((1:Int)==0)=false from rfl,show((1:Int)==1)=true from rfl,cond_true,cond_false]
  rw[hpass (by unfold actE;rw[if_neg (by omega),if_neg (by omega),if_neg (by omega)])]
 by_cases h2:x.Kind=2
 ·rw[h2]
  simp only[show((2:Int)==0)=false from rfl,show((2:Int)==1)=false from rfl,show((2:Int)==2)=true from rfl,cond_true,cond_false]
  rw[hpass (by unfold actE;rw[if_neg (by omega),if_neg (by omega),if_neg (by omega)])]
 by_cases h3:x.Kind=3
 ·rw[h3]
  simp only[show((3:Int)==0)=false from rfl,show((3:Int)==1)=false from rfl,show((3:Int)==2)=false from rfl,show((3:Int)==3)=true from rfl,cond_true,cond_false]
  have e:actE n.Table x s=([⟨s.Mass,s.Heat-Qn9 x s,s.Silica,s.Gas⟩],⟨Qn9 x s,0,0,0⟩,0):=by unfold actE;rw[if_pos h3]
  have hc:0≤Qn9 x s∧Qn9 x s≤s.Heat:=by
   have:=hA.a3 h3
   have:=hst.h0
   unfold Qn9;split<;>omega
  have:=hst.h1
  have:=hst.m1
  unfold Qir
  simp only[Qbu hx,Option.bind_some,chk,c1,cond_true,Int.toNat_natCast,hLs]
  rw[show(if s.Heat<x.Amount then s.Heat else x.Amount)=Qn9 x s from rfl,Qbh (x:=s.Heat-Qn9 x s) (by omega) (by omega),e]
  simp only[Int.add_zero]
  rw[Qru hSs]
 by_cases h4:x.Kind=4
 ·have hsep:=Q30 (N:=N) hN hv ht hx hst (ws:=ws) (O:=O) hlo hLs hSs hd0 hd1 hy0 hy1 hln h4
  rw[h4]
  simp only[show((4:Int)==0)=false from rfl,show((4:Int)==1)=false from rfl,show((4:Int)==2)=false from rfl,show((4:Int)==3)=false from rfl,show((4:Int)==4)=true from rfl,cond_true,cond_false,hsep,Option.bind_some]
 by_cases h5:x.Kind=5
 ·have hsh:=Q1i (N:=N) (n:=n) (nW:=D) (ws:=ws) (y:=y) (O:=O) (Ss:=Ss) (Ls:=Ls) hN hst hlo (hA.w5 h5) hLs hln
  have e:actE n.Table x s=(Qhi s x.Weights,⟨(Qj5 s x.Weights).Heat,(Qj5 s x.Weights).Silica,(Qj5 s x.Weights).Gas,0⟩,0):=by unfold actE;rw[if_neg h3,if_neg h4,if_pos h5]
  rw[h5]
  unfold Qic
  simp only[show((5:Int)==0)=false from rfl,show((5:Int)==1)=false from rfl,show((5:Int)==2)=false from rfl,show((5:Int)==3)=false from rfl,show((5:Int)==4)=false from rfl,show((5:Int)==5)=true from rfl,cond_true,cond_false,Qbu hx,Option.bind_some,hsh,e,Int.add_zero]
  rw[Qru hSs]
 have h6:x.Kind=6:=by have:=hA.k;omega
 rw[h6]
 simp only[show((6:Int)==0)=false from rfl,show((6:Int)==1)=false from rfl,show((6:Int)==2)=false from rfl,show((6:Int)==3)=false from rfl,show((6:Int)==4)=false from rfl,show((6:Int)==5)=false from rfl,show((6:Int)==6)=true from rfl,cond_true,cond_false]
 rw[hpass (by unfold actE;rw[if_neg h3,if_neg h4,if_neg h5])]
end
end
section
theorem Zem {N:Nat}{n:GNet}{i:Nat}{w:Int}{D:Nat}{ws:List Qaa}{y:Int}{O:List (List Qaa)}{Ls:List Qa1}{Ss:List Int}{s:Qaa}(hD:D=O.length) (hDl:D=Ls.length) (hDs:D=Ss.length) (hw:¬s.Mass≤w) {ins:List Qaa}(hin:Qb0 N n.Table n.Elements O Ls Ss ws y i=some ins) (htot:Qgp N ins=some s) :
  Qcx N i w n.Table n.Elements D D D ws y O Ls Ss=some (.inr i):=by
 unfold Qcx
 simp only[Qhp,Option.bind_some,chk,Qbc,show decide (D≤O.length)=true by simp;omega,show decide (D≤Ls.length)=true by simp;omega,show decide (D≤Ss.length)=true by simp;omega,cond_true]
 rw[show O.take D=O from by rw[hD,List.take_length],show Ls.take D=Ls from by rw[hDl,List.take_length],show Ss.take D=Ss from by rw[hDs,List.take_length],hin,Option.bind_some,htot,Option.bind_some,decide_eq_true (show s.Mass>w by omega),cond_true]
abbrev Q28:=List (List Qaa)×List Qa1×List Int×Int
def Quk {β:Type}(r:Nat⊕Q28) (f:Nat→β) (g:Q28→β):β:=match r with |.inl a=>f a |.inr b=>g b
theorem Zck {α:Type}{o:List α}{i k:Nat}(h:o.length=i) (x y:α):(o++List.replicate (k+1) x).set i y=(o++[y])++List.replicate k x:=by
 rw[List.set_append_right _ _ (by omega),h,Nat.sub_self,List.replicate_succ,List.set_cons_zero,List.append_assoc]
 rfl
structure StV (n:GNet) (st:List Int):Prop where
 len:st.length=n.Elements.length
 bd:∀d∈st,0≤d∧d≤1000000000000000
theorem Zrb {n:GNet}{st:List Int}(hst:stB n st=true):StV n st:=by
 unfold stB at hst
 simp only[Bool.and_eq_true,decide_eq_true_eq] at hst
 refine⟨hst.1,fun d hd=>?_⟩
 have:=Qf4.1 (List.all_eq_true.1 hst.2 d hd)
 omega
theorem Qxt {n:GNet}{st:List Int}(hst:StV n st):st.length=n.Elements.length:=hst.len
theorem Zkz {n:GNet}{st:List Int}(hst:StV n st) {i:Nat}(hi:i<n.Elements.length):∃d,st[i]? = some d∧0≤d∧d≤1000000000000000:=by
 have hl:=hst.len
 obtain⟨a,b⟩:=hst.bd (st[i]'(by omega)) (List.getElem_mem _)
 exact⟨st[i]'(by omega),List.getElem?_eq_getElem _,a,b⟩
section
variable {N : Nat} {n : GNet} (hs : Qim n) (hN : 1001 ≤ N) (hv : NetV n) {ws : List Qaa} (hf : FedV n ws) {st : List Int} (hst : StV n st)
include hs hN hv hf hst in
theorem Zot (k:List (List Qaa)×List Qa1×List Int×Int→Option (Int⊕(Int×Int×List (List Qaa)×List Qa1×List Int))):∀(m i:Nat) (o:List (List Qaa)) (ls:List Qa1) (ss:List Int) (y:Int),(n.Elements.drop i).length<m→i≤n.Elements.length→InvT n ws i o ls→ss.length=i→0≤y→y≤1000000*i →
  Qdv N n st ws k m i (o++List.replicate (n.Elements.length-i) []) (ls++List.replicate (n.Elements.length-i) ⟨0,0,0,0⟩) (ss++st.drop i) y =
  Quk (Qst n.Table ((n.Elements.drop i).zip (st.drop i)) (ws.drop (wcn n i)) o ls ss y) (fun a=>some (.inl (a:Int))) k:=by
 intro m
 induction m with
 |zero=>intro i _ _ _ _ h;cases h
 |succ m ih=>
  intro i o ls ss y h hi hI hss hy0 hy1
  have hsl:=Qxt hst
  have e0:=hs.e
  rw[Qdv]
  cases hd:n.Elements.drop i with
  |nil=>
   have:=Qbs hd
   have hi2:i=n.Elements.length:=by omega
   subst hi2
   rw[show decide ((n.Elements.length:Int)<(n.Elements.length:Int))=false by simp,cond_false,Nat.sub_self,show st.drop n.Elements.length=[] from List.drop_of_length_le (by omega)]
   simp[Qst,Quk]
  |cons x l=>
   obtain⟨hg,hd',hlt⟩:=Qbg hd
   obtain⟨d,hgd,d0,d1⟩:=Zkz hst hlt
   have hds:st.drop i=d::st.drop (i+1):=by
    have hi:=(List.getElem?_eq_some_iff.1 hgd).1
    rw[List.drop_eq_getElem_cons hi]
    rw[List.getElem?_eq_getElem hi] at hgd
    cases hgd;rfl
   obtain⟨iv,it⟩:=Zdy hv hf hI hg
   have hx:=hs.x x (List.mem_of_getElem? hg)
   have hinl:(insE o (ws.drop (wcn n i)) x).length≤100:=by
    unfold insE
    split
    ·rw[List.length_take];omega
    ·rw[List.length_map];omega
   have hk:n.Elements.length-i=(n.Elements.length-(i+1))+1:=by omega
   have hwid:=Zb1 N (hv.alone x (List.mem_of_getElem? hg)) d0 (show d≤9000000000000000000 by omega)
   simp only[dlI hlt,cond_true,Qbu hg,Qbu hgd,Option.bind_some,hwid,Int.toNat_natCast,hsl]
   have htot:Qgp N (insE o (ws.drop (wcn n i)) x)=some (totS (insE o (ws.drop (wcn n i)) x)):=by rw[Q3u (by omega) hN,Qqk iv (by omega)]
   have hin:=Znf hs hN hv hf hI hg (List.replicate (n.Elements.length-i) []) (ls++List.replicate (n.Elements.length-i) ⟨0,0,0,0⟩) (ss++st.drop i) y
   have lO:n.Elements.length=(o++List.replicate (n.Elements.length-i) []).length:=by simp[hI.lo];omega
   have lL:n.Elements.length=(ls++List.replicate (n.Elements.length-i) (⟨0,0,0,0⟩:Qa1)).length:=by simp[hI.ll];omega
   have lS:n.Elements.length=(ss++st.drop i).length:=by simp[hss,hsl];omega
   rw[hds,List.zip_cons_cons,Qst]
   by_cases hm:(totS (insE o (ws.drop (wcn n i)) x)).Mass>widI x d
   ·rw[if_pos hm,←hds,Zem lO lL lS (by omega) hin htot,hI.lo]
    rfl
   ·rw[if_neg hm]
    have hLs:(ls++List.replicate (n.Elements.length-i) (⟨0,0,0,0⟩:Qa1))[i]? = some ⟨0,0,0,0⟩:=by
     rw[List.getElem?_append_right (by rw[hI.ll];exact Nat.le_refl _),hI.ll,Nat.sub_self,hk,List.replicate_succ];rfl
    have hSs:(ss++st.drop i)[i]? = some d:=by
     rw[List.getElem?_append_right (by omega),hss,Nat.sub_self,hds];rfl
    have hO:∃r,(o++List.replicate (n.Elements.length-i) ([]:List Qaa))[i]? = some r:=⟨[],by
     rw[List.getElem?_append_right (by rw[hI.lo];exact Nat.le_refl _),hI.lo,Nat.sub_self,hk,List.replicate_succ];rfl⟩
    have hel:=Zoq (N:=N) hN hv (by have:=hs.t;omega) hg it (D:=n.Elements.length) hlt hLs hSs d0 (by omega) hO hy0 (by omega) (by rw[←lL];exact hlt) lO lL lS (w:=widI x d) (by omega) hin htot
    have hK:=Qz3 hv hf hI hg
    have hI2:=Qz2 hv hf hI hg hK
    rw[←hds,hel,Option.bind_some,Sum.elim_inl]
    dsimp only
    have hSet:(ss++st.drop i).set i (d+(actE n.Table x (totS (insE o (ws.drop (wcn n i)) x))).2.1.Scale)=(ss++[d+(actE n.Table x (totS (insE o (ws.drop (wcn n i)) x))).2.1.Scale])++st.drop (i+1):=by
     rw[hds,List.set_append_right _ _ (by omega),hss,Nat.sub_self,List.set_cons_zero,List.append_assoc]
     rfl
    rw[hSet,hk,Zck hI.lo,Zck hI.ll,w64S (i:=i) (by omega)]
    have t0:=hK.t0
    have t1:=hK.t1
    have hih:=ih (i+1) _ _ (ss++[d+(actE n.Table x (totS (insE o (ws.drop (wcn n i)) x))).2.1.Scale]) (y+(actE n.Table x (totS (insE o (ws.drop (wcn n i)) x))).2.2) (dlt hd hd' h) hlt hI2 (by simp[hss]) (by omega) (by omega)
    rw[hd'] at hih
    refine hih.trans ?_
    have hw:ws.drop (wcn n (i+1))=if x.Kind=1 then(ws.drop (wcn n i)).drop 1 else ws.drop (wcn n i):=by
     rw[Qnv hg]
     split
     ·rw[List.drop_drop]
     ·rfl
    rw[hw]
def Qvh (n:GNet) (st:List Int) (ws:List Qaa):Nat⊕Q28:=Qst n.Table (n.Elements.zip st) ws [] [] [] 0
include hs hN hv hf hst in
theorem Zty:Qgd N n st ws=Quk (Qvh n st ws) (fun a=>some (.inl (a:Int))) (fun r=>some (.inr (-1,r.2.2.2,r.1,r.2.1,r.2.2.1))):=by
 have e0:=hs.e
 have hsl:=Qxt hst
 have hl1:=hv.len.1
 have hne:(!st.isEmpty)=true:=by
  cases st with
  |nil=>simp at hsl;omega
  |cons=>rfl
 unfold Qgd Qgb
 simp only[chk,hne,Qbc]
 rw[show(decide (0≤(n.Elements.length:Int))&&decide (24*(n.Elements.length:Int)≤281474976710656)&&decide ((n.Elements.length:Int)≤9223372036854775807))=true by simp;omega,show(decide (0≤(n.Elements.length:Int))&&decide (32*(n.Elements.length:Int)≤281474976710656)&&decide ((n.Elements.length:Int)≤9223372036854775807))=true by simp;omega,show decide ((0+st.length)*8≤140737488355328)=true by simp;omega]
 simp only[cond_true,Option.bind_some,Int.toNat_natCast]
 have:=Zot hs hN hv hf hst (fun x=>match x with |(y12,y13,y14,y15)=>some (.inr (-1,y15,y12,y13,y14))) N 0 [] [] [] 0 (by simp;omega) (Nat.zero_le _) (Qwd n ws) rfl (Int.le_refl _) (by simp)
 simp only[List.nil_append,Nat.sub_zero,List.drop_zero,show wcn n 0=0 from rfl] at this
 refine this.trans ?_
 unfold Qvh
 rfl
end
def fedI (n:GNet) (ws:List Qaa):Int:=
 bif decide (ws.length=wcn n n.Elements.length)&&ws.all strB then(if (totS ws).Mass>1000000 then 3 else if (totS ws).Gas>1000000000 then 3 else 0) else 1
theorem Zi6 (N:Nat) (s:Qaa):Qg3 N s=some (bif strB s then 0 else 1):=by
 unfold Qg3
 rw[Qy7]
 cases strB s<;>rfl
theorem Zrv {N:Nat}{n:GNet}(hs:Qim n) (hN:1001≤N) {ws:List Qaa}(hl:ws.length≤1000):Qis N n ws=some (fedI n ws):=by
 have hc:Qbp N ws=some (ws.any fun x=>!strB x):=by
  unfold Qbp Qb2 Qbc
  refine Qjm (F:=Qbd N ws fun _=>some (-1)) (k:=fun _=>some (-1)) (q:=Qds N) (fun n y=>rfl) (fun x=>?_) rfl (by omega) (by omega)
  simp only[Qds,Qj4,Zi6,Option.bind_some]
  cases strB x<;>rfl
 have e0:=hs.e
 have hof:(ofL 1 0 n.Elements).length=wcn n n.Elements.length:=by rw[Qjc];unfold wcn;rw[List.take_length]
 unfold Qis Qfu fedI
 simp only[Qbc,Q6r hs hN 1,Option.bind_some,hc,Qw3,hof,Q3u hl hN]
 by_cases h1:ws.length=wcn n n.Elements.length
 ·rw[decide_eq_true h1,show((ws.length:Int) != (wcn n n.Elements.length:Int))=false by rw[bne_eq_false_iff_eq];omega]
  cases ha:ws.all strB with
  |false=>rfl
  |true=>
   have hall:∀s∈ws,StrV s:=fun s h=>Qpo.1 (List.all_eq_true.1 ha s h)
   rw[Qqk hall hl]
   simp only[cond_false,Bool.not_true,Bool.true_and,cond_true]
   by_cases h2:(totS ws).Mass>1000000
   ·rw[decide_eq_true h2,if_pos h2];rfl
   ·rw[decide_eq_false h2,if_neg h2]
    by_cases h3:(totS ws).Gas>1000000000
    ·rw[decide_eq_true h3,if_pos h3];rfl
    ·rw[decide_eq_false h3,if_neg h3];rfl
 ·rw[decide_eq_false h1,show((ws.length:Int) != (wcn n n.Elements.length:Int))=true by rw[bne_iff_ne];omega];rfl
theorem Znk {n:GNet}{ws:List Qaa}(h:fedI n ws=0):FedV n ws:=by
 unfold fedI at h
 cases hb:decide (ws.length=wcn n n.Elements.length)&&ws.all strB with
 |false=>rw[hb] at h;cases h
 |true=>
  rw[hb,cond_true] at h
  simp only[Bool.and_eq_true,decide_eq_true_eq] at hb
  by_cases h2:(totS ws).Mass>1000000
  ·rw[if_pos h2] at h;cases h
  ·rw[if_neg h2] at h
   by_cases h3:(totS ws).Gas>1000000000
   ·rw[if_pos h3] at h;cases h
   ·exact⟨hb.1,fun s hs=>Qpo.1 (List.all_eq_true.1 hb.2 s hs),by omega,by omega⟩
def Zmk:Qe5:=⟨[],[],[]⟩
structure Zr5 (n:GNet) (st:List Int) (ws:List Qaa) (r:Q28):Prop where
 inv:InvT n ws n.Elements.length r.1 r.2.1
 ss:r.2.2.1=List.zipWith (fun (d:Int) (l:Qa1)=>d+l.Scale) st r.2.1
 y0:0≤r.2.2.2
theorem Q6c {n:GNet}(hv:NetV n) {ws:List Qaa}(hf:FedV n ws) {st:List Int}(hst:StV n st):∀(l:List (Qaf×Int)) (i:Nat) (o:List (List Qaa)) (ls:List Qa1) (ss:List Int) (y:Int) (r:Q28),
  l=(n.Elements.drop i).zip (st.drop i)→i≤n.Elements.length→InvT n ws i o ls→ss=List.zipWith (fun (d:Int) (q:Qa1)=>d+q.Scale) (st.take i) ls→0≤y→Qst n.Table l (ws.drop (wcn n i)) o ls ss y=.inr r→Zr5 n st ws r
 |[],i,o,ls,ss,y,r,hl,hi,hI,hss,hy,h=>by
  have hsl:=Qxt hst
  have hlen:(n.Elements.drop i).length=0:=by
   have:=congrArg List.length hl
   rw[List.length_zip,List.length_drop,List.length_drop] at this
   simp at this
   rw[List.length_drop];omega
  rw[List.length_drop] at hlen
  have e:i=n.Elements.length:=by omega
  rw[Qst] at h
  cases h
  subst e
  exact⟨hI,by dsimp only;rw[hss,List.take_of_length_le (by omega)],hy⟩
 |(x,d)::l,i,o,ls,ss,y,r,hl,hi,hI,hss,hy,h=>by
  have hsl:=Qxt hst
  have hlt:i<n.Elements.length:=by
   apply Decidable.byContradiction
   intro hc
   rw[List.drop_of_length_le (by omega)] at hl
   simp at hl
  have hdE:n.Elements.drop i=n.Elements[i]::n.Elements.drop (i+1):=List.drop_eq_getElem_cons hlt
  have hdS:st.drop i=st[i]'(by omega)::st.drop (i+1):=List.drop_eq_getElem_cons (by omega)
  rw[hdE,hdS,List.zip_cons_cons,List.cons.injEq,Prod.mk.injEq] at hl
  obtain⟨⟨hx,hd⟩,hl⟩:=hl
  have hg:n.Elements[i]? = some x:=by rw[hx];exact List.getElem?_eq_getElem hlt
  have hgd:st[i]? = some d:=by rw[hd];exact List.getElem?_eq_getElem _
  rw[Qst] at h
  by_cases hm:(totS (insE o (ws.drop (wcn n i)) x)).Mass>widI x d
  ·rw[if_pos hm] at h;cases h
  ·rw[if_neg hm] at h
   have hK:=Qz3 hv hf hI hg
   have hI2:=Qz2 hv hf hI hg hK
   have hw:ws.drop (wcn n (i+1))=if x.Kind=1 then(ws.drop (wcn n i)).drop 1 else ws.drop (wcn n i):=by
    rw[Qnv hg]
    split
    ·rw[List.drop_drop]
    ·rfl
   rw[←hw] at h
   refine Q6c hv hf hst l (i+1) _ _ _ _ r hl hlt hI2 ?_ (by have:=hK.t0;omega) h
   rw[Qmx hgd,hss,List.zipWith_append (by rw[List.length_take,hI.ll];omega)]
   rfl
theorem Qza {n:GNet}(hv:NetV n) {ws:List Qaa}(hf:FedV n ws) {st:List Int}(hst:StV n st) {r:Q28}(h:Qvh n st ws=.inr r):Zr5 n st ws r:=
 Q6c hv hf hst _ 0 [] [] [] 0 r (by simp) (Nat.zero_le _) (Qwd n ws) (by simp) (Int.le_refl _) h
end
section
def Qji (_N:Nat) (p0:GRow) (p1:Qaa):Option Qe3:=
  (some (w64 (p1.Heat-(w64 (p1.Mass*p0.Liquid))))).bind fun x1=>
  Qbc (fun y3=>
    Qbc (fun _=>
      Qbc (fun ⟨y6,y7,y8,y9,y10,y11⟩=>
        Qbc (fun y13=>
          (some (if (w64 (p1.Silica-(w64 (y9*p0.Silica))))>0 then w64 (p1.Silica-(w64 (y9*p0.Silica))) else 0)).bind fun x15=>
          some (⟨(⟨y6,y7,0,y8⟩:Qaa),(⟨y9,y10,w64 (p1.Silica-x15),y11⟩:Qaa),y13,x15⟩:Qe3)) fun k14:Int→Option Qe3=>
        bif (decide (x1>0)) then
         k14 (w64 (y10-(w64 (y9*p0.Liquid))))
        else
         k14 (0)) fun k12:Int×Int×Int×Int×Int×Int→Option Qe3=>
      bif (decide (y3>0)) then
       k12 (y3,w64 (y3*p0.Vapour),p1.Gas,w64 (p1.Mass-y3),w64 (p1.Heat-(w64 (y3*p0.Vapour))),0)
      else
       k12 (0,0,0,p1.Mass,p1.Heat,p1.Gas)) fun k5:Unit→Option Qe3=>
    bif (y3==p1.Mass) then
     bif (decide (y3>0)) then
      some (⟨(⟨y3,p1.Heat,0,p1.Gas⟩:Qaa),(⟨0,0,0,0⟩:Qaa),0,p1.Silica⟩:Qe3)
     else
      k5 ()
    else
     k5 ()) fun k4:Int→Option Qe3=>
  bif (decide (x1>0)) then
   bif (decide (p1.Heat≥(w64 (p1.Mass*p0.Vapour)))) then
    k4 (p1.Mass)
   else
    chk ((w64 (p0.Vapour-p0.Liquid)) != 0)<|
    (some (w64 (x1.tdiv (w64 (p0.Vapour-p0.Liquid))))).bind fun x24=>
    k4 (x24)
  else
   k4 (0)
def Qnc (p0:GRow):Slot:=.own 5 [[(I p0.T),(I p0.P),(I p0.Liquid),(I p0.Vapour),(I p0.Silica)]]
def Qnb (p1:Qaa):Slot:=.own 4 [[(I p1.Mass),(I p1.Heat),(I p1.Silica),(I p1.Gas)]]
def Qls:Slot:=.own 10 [[(I (0)),(I (0)),(I (0)),(I (0)),(I (0)),(I (0)),(I (0)),(I (0)),(I (0)),(I (0))]]
theorem Qvt (N:Nat) (p0:GRow) (p1:Qaa) (r:Qe3) (h:Qji N p0 p1=some r):Spec prog 63 [(.agg (Qap p0)),(.agg (Qad p1))] [] (.agg (Qsf r)) []:=by
  refine sA func63 0 fun _ _ _ hq hd0=>?_
  unfold Qji at h
  refine wxz ?_
  obtain⟨x1,hl2,h⟩:=bno h
  refine wx tbk [(8,rp [(.tmp 15,(I (w64 (p1.Heat-(w64 (p1.Mass*p0.Liquid))))))] (I x1))] ⟨Qhg hl2 (aas rfl),tv⟩<|wxz ?_
  obtain⟨k4,hk_k4,h⟩:=jko h
  refine wjn (τ:=Int) (fun t=>k4 t=some r) (fun y3=>⟨mk 118 [(2,.ref 0 5 0 0),(3,.ref 1 4 0 0),(4,.ref 2 10 0 0),(5,I x1),(6,I y3)],[(Qnc p0),(Qnb p1),Qls]⟩) (fun y3 h=>?_) ?_
  ·subst hk_k4
   refine wxz ?_
   obtain⟨k5,hk_k5,h⟩:=jko h
   refine wjn (τ:=Unit) (fun t=>k5 t=some r) (fun _=>⟨mk 118 [(2,.ref 0 5 0 0),(3,.ref 1 4 0 0),(4,.ref 2 10 0 0),(5,I x1),(6,I y3),(7,.ref 3 10 0 0)],[(Qnc p0),(Qnb p1),Qls,Qls]⟩) (fun t h=>?_) ?_
   ·subst hk_k5
    refine wxz ?_
    obtain⟨k12,hk_k12,h⟩:=jko h
    refine wjn (τ:=Int×Int×Int×Int×Int×Int) (fun t=>k12 t=some r) (fun ⟨y6,y7,y8,y9,y10,y11⟩=>⟨mk 118 [(2,.ref 0 5 0 0),(3,.ref 1 4 0 0),(4,.ref 2 10 0 0),(5,I x1),(7,.ref 3 10 0 0)],[(Qnc p0),(Qnb p1),Qls,(.own 10 [[I y6,I y7,I 0,I y8,I y9,I y10,I p1.Silica,I y11,I 0,I 0]])]⟩) (fun t h=>?_) ?_
    ·subst hk_k12
     obtain⟨y6,y7,y8,y9,y10,y11⟩:=t
     obtain⟨k14,hk_k14,h⟩:=jko h
     refine wjn (τ:=Int) (fun t=>k14 t=some r) (fun y13=>⟨mk 118 [(2,.ref 0 5 0 0),(3,.ref 1 4 0 0),(4,.ref 2 10 0 0),(7,.ref 3 10 0 0)],[(Qnc p0),(Qnb p1),Qls,(.own 10 [[I y6,I y7,I 0,I y8,I y9,I y10,I p1.Silica,I y11,I y13,I 0]])]⟩) (fun y13 h=>?_) ?_
     ·subst hk_k14
      obtain⟨x15,hl16,h⟩:=bno h
      refine wx tbk [(9,rp [ci 0,(.tmp 107,(I (w64 (p1.Silica-(w64 (y9*p0.Silica))))))] (I x15))] ⟨Qhg hl16 (Qml rfl),tv⟩<|wxz<|wxz<|Qai ?_
      obtain rfl:=osi h
      exact fie [(.agg [I y6,I y7,I 0,I y8,I y9,I y10,(I (w64 (p1.Silica-x15))),I y11,I y13,I x15])] ⟨Qbv (n:=2) (m:=10) (j:=0) (i:=0) (xs:=[[I y6,I y7,I 0,I y8,I y9,I y10,(I (w64 (p1.Silica-x15))),I y11,I y13,I x15]]) (by kernel_rfl) (by kernel_rfl) Zmm (by decide) rfl (nle rfl) rfl,tv⟩
     ·skip
      refine wxz ?_
      refine bfe h (fun hc17 h=>?_) fun hc17 h=>?_
      ·exact wft hc17<|wxz1<|thn<|⟨(w64 (y10-(w64 (y9*p0.Liquid)))),h,(mto (n:=118) [(2,.ref 0 5 0 0),(3,.ref 1 4 0 0),(4,.ref 2 10 0 0),(7,.ref 3 10 0 0)] [0,1,2,3] [(Qnc p0),(Qnb p1),Qls,(.own 10 [[I y6,I y7,I 0,I y8,I y9,I y10,I p1.Silica,I y11,(I (w64 (y10-(w64 (y9*p0.Liquid))))),I 0]])] hq (prr (prr (prr (prr pn)))) (qb (lcc (lcc (lc rwl ln))) (qb (lcc (lcc ln)) (qb (lcc (lcc (lcc (lcc (lcc ln))))) (qb (lcc (lcc (lcc (lcc (lcc ln))))) qn)))))⟩
      ·exact wfn hc17<|Qam<|thn<|⟨(0),h,(mto (n:=118) [(2,.ref 0 5 0 0),(3,.ref 1 4 0 0),(4,.ref 2 10 0 0),(7,.ref 3 10 0 0)] [0,1,2,3] [(Qnc p0),(Qnb p1),Qls,(.own 10 [[I y6,I y7,I 0,I y8,I y9,I y10,I p1.Silica,I y11,I 0,I 0]])] hq (prr (prr (prr (prr pn)))) (qb (lcc (lcc (lc rwl ln))) (qb (lcc (lcc ln)) (qb (lcc (lcc (lcc (lcc (lcc ln))))) (qb (lcc (lcc (lcc (lcc (lcc ln))))) qn)))))⟩
    ·skip
     refine wxz ?_
     refine bfe h (fun hc18 h=>?_) fun hc18 h=>?_
     ·refine wft hc18<|wx tbk [(7,rp _ _)] ⟨Qaz (vs:=[I y3,(I (w64 (y3*p0.Vapour))),I p1.Gas]) rfl ts89 tz89 rfl (by rfl) rfl,tv⟩ ?_
      exact wx1 tbk [(13,rp _ _)] ⟨Qaz (vs:=[(I (w64 (p1.Mass-y3))),(I (w64 (p1.Heat-(w64 (y3*p0.Vapour))))),I p1.Silica]) rfl ts89 tz89 rfl (by rfl) rfl,tv⟩<|thn<|⟨(y3,w64 (y3*p0.Vapour),p1.Gas,w64 (p1.Mass-y3),w64 (p1.Heat-(w64 (y3*p0.Vapour))),0),h,(mto (n:=118) [(2,.ref 0 5 0 0),(3,.ref 1 4 0 0),(4,.ref 2 10 0 0),(5,I x1),(7,.ref 3 10 0 0)] [0,1,2,3] [(Qnc p0),(Qnb p1),Qls,(.own 10 [[I y3,(I (w64 (y3*p0.Vapour))),I 0,I p1.Gas,(I (w64 (p1.Mass-y3))),(I (w64 (p1.Heat-(w64 (y3*p0.Vapour))))),I p1.Silica,I 0,I 0,I 0]])] hq (prr (prr (prr (pw (prr pn))))) (qb (lcc (lcc (lc rwl ln))) (qb (lcc (lcc ln)) (qb (lcc (lcc (lcc (lcc (lcc ln))))) (qb (lcc (lcc (lcc (lcc (lcc ln))))) qn)))))⟩
     ·exact wfn hc18<|Qam<|thn<|⟨(0,0,0,p1.Mass,p1.Heat,p1.Gas),h,(mto (n:=118) [(2,.ref 0 5 0 0),(3,.ref 1 4 0 0),(4,.ref 2 10 0 0),(5,I x1),(7,.ref 3 10 0 0)] [0,1,2,3] [(Qnc p0),(Qnb p1),Qls,(.own 10 [[I 0,I 0,I 0,I 0,I p1.Mass,I p1.Heat,I p1.Silica,I p1.Gas,I 0,I 0]])] hq (prr (prr (prr (pw (prr pn))))) (qb (lcc (lcc (lc rwl ln))) (qb (lcc (lcc ln)) (qb (lcc (lcc (lcc (lcc (lcc ln))))) (qb (lcc (lcc (lcc (lcc (lcc ln))))) qn)))))⟩
   ·skip
    refine bfe h (fun hb19 h=>?_) fun hb19 h=>?_
    ·refine wx tbk [(4,rp [(.tmp 42,(B ((y3==p1.Mass))))] (B true))] ⟨asb hb19 (amv rfl),tv⟩ ?_
     refine bfe h (fun hc20 h=>?_) fun hc20 h=>?_
     ·refine wft hc20<|wx tbk [(5,rp _ _)] ⟨Qaz (vs:=[I y3,I p1.Heat,I p1.Gas]) rfl ts89 tz89 rfl (by rfl) rfl,tv⟩<|wxz<|wxz<|Qai<|Qaj ?_
      obtain rfl:=osi h
      exact fie [(.agg [I y3,I p1.Heat,I 0,I p1.Gas,I 0,I 0,I 0,I 0,I 0,I p1.Silica])] ⟨Qbv (n:=2) (m:=10) (j:=0) (i:=0) (xs:=[[I y3,I p1.Heat,I 0,I p1.Gas,I 0,I 0,I 0,I 0,I 0,I p1.Silica]]) (by kernel_rfl) (by kernel_rfl) Zmm (by decide) rfl (nle rfl) rfl,tv⟩
     ·exact wfn hc20<|Qam<|thn<|⟨(),h,(mto (n:=118) [(2,.ref 0 5 0 0),(3,.ref 1 4 0 0),(4,.ref 2 10 0 0),(5,I x1),(6,I y3),(7,.ref 3 10 0 0)] [0,1,2,3] [(Qnc p0),(Qnb p1),Qls,Qls] hq (prr (prr (prr (pw (pw (prr pn)))))) (qb (lcc (lcc (lc rwl ln))) (qb (lcc (lcc ln)) (qb (lcc (lcc (lcc (lcc (lcc ln))))) (qb (lcc (lcc (lcc (lcc (lcc ln))))) qn)))))⟩
    ·exact wx tbk [(4,rp [(.tmp 42,(B ((y3==p1.Mass))))] (B false))] ⟨asb hb19 (amv rfl),tv⟩<|wfa<|Qam<|thn<|⟨(),h,(mto (n:=118) [(2,.ref 0 5 0 0),(3,.ref 1 4 0 0),(4,.ref 2 10 0 0),(5,I x1),(6,I y3),(7,.ref 3 10 0 0)] [0,1,2,3] [(Qnc p0),(Qnb p1),Qls,Qls] hq (prr (prr (prr (pw (pw (prr pn)))))) (qb (lcc (lcc (lc rwl ln))) (qb (lcc (lcc ln)) (qb (lcc (lcc (lcc (lcc (lcc ln))))) (qb (lcc (lcc (lcc (lcc (lcc ln))))) qn)))))⟩
  ·skip
   refine bfe h (fun hb21 h=>?_) fun hb21 h=>?_
   ·refine wx tbk [(2,rp [(.tmp 17,(B ((decide (x1>0)))))] (B true))] ⟨asb hb21 (amv rfl),tv⟩ ?_
    refine bfe h (fun hc22 h=>?_) fun hc22 h=>?_
    ·exact wft hc22<|wxz1<|thn<|⟨(p1.Mass),h,(mto (n:=118) [(2,.ref 0 5 0 0),(3,.ref 1 4 0 0),(4,.ref 2 10 0 0),(5,I x1),(6,I p1.Mass)] [0,1,2] [(Qnc p0),(Qnb p1),Qls] hq (prr (prr (prr (pw (pw pn))))) (qb (lcc (lcc (lc rwl ln))) (qb (lcc (lcc ln)) (qb (lcc (lcc (lcc (lcc (lcc ln))))) qn))))⟩
    ·refine wfn hc22<|wxz<|wft hb21 ?_
     obtain⟨hz23,h⟩:=cko h
     obtain⟨x24,hl25,h⟩:=bno h
     exact wx1 tbk [(6,rp [(.tmp 32,I x1),(.tmp 37,(I (w64 (p0.Vapour-p0.Liquid))))] (I (w64 (x1.tdiv (w64 (p0.Vapour-p0.Liquid)))))),(7,rp [(.tmp 38,(I (w64 (x1.tdiv (w64 (p0.Vapour-p0.Liquid))))))] (I x24))] ⟨Qkc rfl (Qko hz23),Qhg hl25 (aas rfl),tv⟩<|thn<|⟨(x24),h,(mto (n:=118) [(2,.ref 0 5 0 0),(3,.ref 1 4 0 0),(4,.ref 2 10 0 0),(5,I x1),(6,I x24)] [0,1,2] [(Qnc p0),(Qnb p1),Qls] hq (prr (prr (prr (pw (pw pn))))) (qb (lcc (lcc (lc rwl ln))) (qb (lcc (lcc ln)) (qb (lcc (lcc (lcc (lcc (lcc ln))))) qn))))⟩
   ·exact wx tbk [(2,rp [(.tmp 17,(B ((decide (x1>0)))))] (B false))] ⟨asb hb21 (amv rfl),tv⟩<|wfa<|wxz<|wfn hb21<|Qam<|thn<|⟨(0),h,(mto (n:=118) [(2,.ref 0 5 0 0),(3,.ref 1 4 0 0),(4,.ref 2 10 0 0),(5,I x1),(6,I 0)] [0,1,2] [(Qnc p0),(Qnb p1),Qls] hq (prr (prr (prr (pw (pw pn))))) (qb (lcc (lcc (lc rwl ln))) (qb (lcc (lcc ln)) (qb (lcc (lcc (lcc (lcc (lcc ln))))) qn))))⟩
def Qfz (N:Nat) (p0:List Qaa) (k5:Int×Int×Int×Int→Option Qaa):Nat→Int→Int→Int→Int→Int→Option Qaa
  |0,_,_,_,_,_=>none
  |n16+1,y6,y7,y8,y9,y10=>
    bif (decide (y6<(p0.length:Int))) then
     (getI p0 y6).bind fun x18=>
     Qfz N p0 k5 n16 (w64 (y6+1)) (w64 (y7+x18.Mass)) (w64 (y8+x18.Heat)) (w64 (y9+x18.Silica)) (w64 (y10+x18.Gas))
    else
     k5 (y7,y8,y9,y10)
def Qiq (N:Nat) (p0:List Qaa):Option Qaa:=
  Qbc (fun ⟨y1,y2,y3,y4⟩=>
    some (⟨y1,y2,y3,y4⟩:Qaa)) fun k5:Int×Int×Int×Int→Option Qaa=>
  Qfz N p0 k5 N 0 0 0 0 0
def Qtt:Slot:=.own 4 [[(I (0)),(I (0)),(I (0)),(I (0))]]
def Q56 (p0:List Qaa):AV:=.dat 4 (p0.map Qad)
theorem Qnz (N:Nat) (p0:List Qaa) (r:Qaa) (h:Qiq N p0=some r):Spec prog 38 [(.dat 4 (p0.map Qad))] [] (.agg (Qad r)) []:=by
  refine sA func38 0 fun _ _ _ hq hd0=>?_
  unfold Qiq at h
  refine wxz<|wxz ?_
  obtain⟨k5,hk_k5,h⟩:=jko h
  refine wjn (τ:=Int×Int×Int×Int) (fun t=>k5 t=some r) (fun ⟨y1,y2,y3,y4⟩=>⟨mk 45 [(2,.ref 0 4 0 0),(3,.ref 1 4 0 0)],[Qtt,(.own 4 [[I y1,I y2,I y3,I y4]])]⟩) (fun t h=>?_) ?_
  ·subst hk_k5
   obtain⟨y1,y2,y3,y4⟩:=t
   refine wxz<|Qai ?_
   obtain rfl:=osi h
   exact fie [(.agg [I y1,I y2,I y3,I y4])] ⟨Qbv (n:=0) (m:=4) (j:=0) (i:=0) (xs:=[[I y1,I y2,I y3,I y4]]) (by kernel_rfl) (by kernel_rfl) ti89 (by decide) rfl (nle rfl) rfl,tv⟩
  ·skip
   refine wxz<|Qao ?_
   refine wmr (mto (n:=45) (l':=[(0,(Q56 p0)),(2,.ref 0 4 0 0),(3,.ref 1 4 0 0),(4,I 0)]) (own':=[Qtt,Qtt]) [(0,(Q56 p0)),(2,.ref 0 4 0 0),(3,.ref 1 4 0 0),(4,I 0)] [0,1] [Qtt,Qtt] hq (pc (rnd Qal) (prr (prr (pw pn)))) (qb (lcc (lcc ln)) (qb (lcc (lcc ln)) qn))) ?_
   refine Qbl (τ:=Int×Int×Int×Int×Int) (fun n t=>Qfz N p0 k5 n t.1 t.2.1 t.2.2.1 t.2.2.2.1 t.2.2.2.2=some r) (fun ⟨y6,y7,y8,y9,y10⟩=>⟨mk 45 [(0,(Q56 p0)),(2,.ref 0 4 0 0),(3,.ref 1 4 0 0),(4,I y6)],[Qtt,(.own 4 [[I y7,I y8,I y9,I y10]])]⟩) (fun t h=>by rw[Qfz] at h;cases h) (fun n16 ih t h=>?_) N (0,0,0,0,0) h
   obtain⟨y6,y7,y8,y9,y10⟩:=t
   rw[Qfz] at h
   skip
   refine wsq<|wx tbk [(2,rp _ _)] ⟨alq 4 Qad p0 underlying28,tv⟩ ?_
   refine bfe h (fun hc17 h=>?_) fun hc17 h=>?_
   ·refine wft hc17<|Qam<|thn<|wsq<|Qao ?_
    obtain⟨x18,hg19,h⟩:=bno h
    obtain⟨hi20,hj21⟩:=gsm hg19
    refine wy1 tbk [(4,rp _ _),(12,rp _ _),(20,rp _ _),(28,rp _ _),(32,rp _ _)] ⟨aiq underlying28 ti89 Qad hi20 hj21,aiq underlying28 ti89 Qad hi20 hj21,aiq underlying28 ti89 Qad hi20 hj21,aiq underlying28 ti89 Qad hi20 hj21,Qaz (vs:=[(I (w64 (y7+x18.Mass))),(I (w64 (y8+x18.Heat))),(I (w64 (y9+x18.Silica))),(I (w64 (y10+x18.Gas)))]) rfl ts89 tz89 rfl (by rfl) rfl,tv⟩<|bln<|thn<|wxz1<|thn ?_
    exact arm (mto (n:=45) [(0,(Q56 p0)),(2,.ref 0 4 0 0),(3,.ref 1 4 0 0),(4,(I (w64 (y6+1))))] [0,1] [Qtt,(.own 4 [[(I (w64 (y7+x18.Mass))),(I (w64 (y8+x18.Heat))),(I (w64 (y9+x18.Silica))),(I (w64 (y10+x18.Gas)))]])] hq (pc (rnd Qal) (prr (prr (pw pn)))) (qb (lcc (lcc ln)) (qb (lcc (lcc ln)) qn))) (ih (w64 (y6+1),w64 (y7+x18.Mass),w64 (y8+x18.Heat),w64 (y9+x18.Silica),w64 (y10+x18.Gas)) h)
   ·exact wfn hc17<|Qa7<|Qau<|Qau<|Qa6 rfl<|thn<|⟨(y7,y8,y9,y10),h,(mto (n:=45) [(2,.ref 0 4 0 0),(3,.ref 1 4 0 0)] [0,1] [Qtt,(.own 4 [[I y7,I y8,I y9,I y10]])] hq (prr (prr pn)) (qb (lcc (lcc ln)) (qb (lcc (lcc ln)) qn)))⟩
def Qja (_N:Nat) (p0 p1 p2:Int):Option Int:=
  bif (p2==0) then
   some 0
  else
   chk (p2 != 0)<|
   (some (w64 ((w64 (p0*p1)).tdiv p2))).bind fun x3=>
   some x3
theorem Qm7 (N:Nat) (p0 p1:Int) (p2 r:Int) (h:Qja N p0 p1 p2=some r):Spec prog 99 [(I p0),(I p1),(I p2)] [] (I r) []:=by
  refine sA func99 0 fun _ _ _ hq hd0=>?_
  unfold Qja at h
  refine wxz<|wsq<|wxz ?_
  refine bfe h (fun hc1 h=>?_) fun hc1 h=>?_
  ·refine wft hc1<|wxz<|Qai<|Qaj ?_
   obtain rfl:=osi h
   exact fend ⟨[I 0],⟨rot,tv⟩,rfl⟩ nll
  ·refine wfn hc1<|Qam<|thn ?_
   obtain⟨hz2,h⟩:=cko h
   obtain⟨x3,hl4,h⟩:=bno h
   refine wx tbk [(4,rp [(.tmp 11,(I (w64 (p0*p1)))),(.tmp 12,I p2)] (I (w64 ((w64 (p0*p1)).tdiv p2)))),(5,rp [(.tmp 13,(I (w64 ((w64 (p0*p1)).tdiv p2))))] (I x3))] ⟨Qkc rfl (Qko hz2),Qhg hl4 (aas rfl),tv⟩<|Qai ?_
   obtain rfl:=osi h
   exact fend ⟨[I x3],⟨rot,tv⟩,rfl⟩ nll
def Qey (N:Nat) (p0:Qaa) (p1 y8:List Int) (k14:(List Qaa)×Int×Int×Int→Option ((List Qaa)×Qhv)):Nat→(List Qaa)→Int→Int→Int→Int→Option ((List Qaa)×Qhv)
  |0,_,_,_,_,_=>none
  |n25+1,y15,y16,y17,y18,y19=>
    bif (decide (y16<(p1.length:Int))) then
     chk (decide (0≤y16)&&decide (y16.toNat<(p1.length:Int).toNat))<|
     (y8[y16.toNat]?).bind fun x28=>
     (Qja N p0.Heat x28 p0.Mass).bind fun x31=>
     (Qja N p0.Silica x28 p0.Mass).bind fun x33=>
     (Qja N p0.Gas x28 p0.Mass).bind fun x35=>
     chk (decide ((y15.length+([(⟨x28,x31,x33,x35⟩:Qaa)]).length)*32≤140737488355328))<|
     Qey N p0 p1 y8 k14 n25 (y15++([(⟨x28,x31,x33,x35⟩:Qaa)])) (w64 (y16+1)) (w64 (y17-x31)) (w64 (y18-x33)) (w64 (y19-x35))
    else
     k14 (y15,y17,y18,y19)
def Qc1 (N:Nat) (p0:Qaa) (p1:List Int) (y1:Int) (y39:List Bool) (k46:Int→Option ((List Qaa)×Qhv)):Nat→Int→Int→Option ((List Qaa)×Qhv)
  |0,_,_=>none
  |n60+1,y56,y57=>
    bif (decide (y57<(p1.length:Int))) then
     chk (decide (0≤y57)&&decide (y57.toNat<(p1.length:Int).toNat))<|
     (y39[y57.toNat]?).bind fun x63=>
     bif (!x63) then
      bif (decide (y56<0)) then
       Qc1 N p0 p1 y1 y39 k46 n60 y57 (w64 (y57+1))
      else
       (getI p1 y57).bind fun x67=>
       chk (y1 != 0)<|
       (getI p1 y56).bind fun x72=>
       chk (y1 != 0)<|
       bif (decide (((w64 (p0.Mass*x67)).tmod y1)>((w64 (p0.Mass*x72)).tmod y1))) then
        Qc1 N p0 p1 y1 y39 k46 n60 y57 (w64 (y57+1))
       else
        Qc1 N p0 p1 y1 y39 k46 n60 y56 (w64 (y57+1))
     else
      Qc1 N p0 p1 y1 y39 k46 n60 y56 (w64 (y57+1))
    else
     k46 (y56)
def Qex (N:Nat) (p0:Qaa) (p1:List Int) (y1:Int) (k9:(List Int)→Option ((List Qaa)×Qhv)):Nat→Int→(List Int)→(List Bool)→Option ((List Qaa)×Qhv)
  |0,_,_,_=>none
  |n43+1,y37,y38,y39=>
    bif (decide (y37>0)) then
     Qbc (fun y45=>
       chk (decide (0≤y45)&&decide (y45.toNat<(p1.length:Int).toNat))<|
       (y39[y45.toNat]?).bind fun _=>
       chk (decide (0≤y45)&&decide (y45.toNat<(p1.length:Int).toNat))<|
       (y38[y45.toNat]?).bind fun x51=>
       chk (decide (0≤y45)&&decide (y45.toNat<(p1.length:Int).toNat))<|
       (y38[y45.toNat]?).bind fun _=>
       Qex N p0 p1 y1 k9 n43 (w64 (y37-1)) (y38.set y45.toNat (w64 (x51+1))) (y39.set y45.toNat true)) fun k46:Int→Option ((List Qaa)×Qhv)=>
     Qc1 N p0 p1 y1 y39 k46 N (-1) 0
    else
     k9 (y38)
def Qew (N:Nat) (p0:Qaa) (p1:List Int) (y1:Int) (k6:Int×(List Int)→Option ((List Qaa)×Qhv)):Nat→Int→Int→(List Int)→Option ((List Qaa)×Qhv)
  |0,_,_,_=>none
  |n84+1,y78,y79,y80=>
    bif (decide (y79<(p1.length:Int))) then
     (getI p1 y79).bind fun x86=>
     chk (y1 != 0)<|
     chk (decide (0≤y79)&&decide (y79.toNat<(p1.length:Int).toNat))<|
     (y80[y79.toNat]?).bind fun _=>
     chk (decide (0≤y79)&&decide (y79.toNat<(p1.length:Int).toNat))<|
     ((y80.set y79.toNat (w64 ((w64 (p0.Mass*x86)).tdiv y1)))[y79.toNat]?).bind fun x95=>
     Qew N p0 p1 y1 k6 n84 (w64 (y78-x95)) (w64 (y79+1)) (y80.set y79.toNat (w64 ((w64 (p0.Mass*x86)).tdiv y1)))
    else
     k6 (y78,y80)
def Qev (N:Nat) (p1:List Int) (k2:Int→Option ((List Qaa)×Qhv)):Nat→Int→Int→Option ((List Qaa)×Qhv)
  |0,_,_=>none
  |n101+1,y97,y98=>
    bif (decide (y98<(p1.length:Int))) then
     (getI p1 y98).bind fun x103=>
     Qev N p1 k2 n101 (w64 (y97+x103)) (w64 (y98+1))
    else
     k2 (y97)
def Qid (N:Nat) (p0:Qaa) (p1:List Int):Option ((List Qaa)×Qhv):=
  Qbc (fun y1=>
    chk (decide (0≤(p1.length:Int))&&decide (8*(p1.length:Int)≤281474976710656)&&decide ((p1.length:Int)≤9223372036854775807))<|
    Qbc (fun ⟨y4,y5⟩=>
      chk (decide (0≤(p1.length:Int))&&decide (1*(p1.length:Int)≤281474976710656)&&decide ((p1.length:Int)≤9223372036854775807))<|
      Qbc (fun y8=>
        Qbc (fun ⟨y10,y11,y12,y13⟩=>
          some (y10,(⟨y11,y12,y13⟩:Qhv))) fun k14:(List Qaa)×Int×Int×Int→Option ((List Qaa)×Qhv)=>
        Qey N p0 p1 y8 k14 N ([]) 0 p0.Heat p0.Silica p0.Gas) fun k9:(List Int)→Option ((List Qaa)×Qhv)=>
      Qex N p0 p1 y1 k9 N y4 y5 (List.replicate (p1.length:Int).toNat false)) fun k6:Int×(List Int)→Option ((List Qaa)×Qhv)=>
    Qew N p0 p1 y1 k6 N p0.Mass 0 (List.replicate (p1.length:Int).toNat 0)) fun k2:Int→Option ((List Qaa)×Qhv)=>
  Qev N p1 k2 N 0 0
def Qgh (p0:Qaa):Slot:=.own 4 [[(I p0.Mass),(I p0.Heat),(I p0.Silica),(I p0.Gas)]]
def Qf8:Slot:=.own 3 [[(I (0)),(I (0)),(I (0))]]
def Zkw (p1:List Int):Slot:=.own 1 ((List.replicate (p1.length:Int).toNat 0:List Int).map Qac)
def Zkv (p1:List Int):Slot:=.own 1 ((List.replicate (p1.length:Int).toNat false:List Bool).map Qka)
def Qjo (y39:List Bool):Slot:=.own 1 (y39.map Qka)
def Qy4 (p1:List Int) (y57:Int) (y39:List Bool) (x63:Bool):List (Nat×Rec):=[(2,rb [((.tmp 71),(.own 3 1 (0) ((p1.length:Int).toNat))),((.tmp 72),(I y57))] [(3,(Qjo y39))] (.ref 3 1 y57.toNat 0)),(3,rb [((.tmp 73),(.ref 3 1 y57.toNat 0))] [(3,(Qjo y39))] (B x63))]
def Qy5 (y80:List Int) (y79:Int) (p0:Qaa) (x86 y1:Int):Slot:=.own 1 ((y80.set y79.toNat (w64 ((w64 (p0.Mass*x86)).tdiv y1)):List Int).map Qac)
theorem Qo8 (N:Nat) (p0:Qaa) (p1:List Int) (r:((List Qaa)×Qhv)) (h:Qid N p0 p1=some r):Spec prog 64 [(.agg (Qad p0)),(.dat 1 (p1.map Qac))] [] (.tup [(.dat 4 (r.1.map Qad)),(.agg (Q0h r.2))]) []:=by
  refine sA func64 0 fun _ _ _ hq hd0=>?_
  unfold Qid at h
  refine wxz<|wxe ?_
  obtain⟨k2,hk_k2,h⟩:=jko h
  refine wjn (τ:=Int) (fun t=>k2 t=some r) (fun y1=>⟨mk 172 [(1,(.dat 1 (p1.map Qac))),(2,.ref 0 4 0 0),(5,.ref 1 3 0 0),(6,I y1),(7,I p0.Mass)],[(Qgh p0),Qf8]⟩) (fun y1 h=>?_) ?_
  ·subst hk_k2
   obtain⟨hm3,h⟩:=cko h
   refine wx tbk [(1,rp _ _),(2,⟨[(.tmp 34,(I ((p1.length:Int)))),(.tmp 34,(I ((p1.length:Int))))],[(2,.unused)],(.own 2 1 (0) ((p1.length:Int).toNat)),[(2,(Zkw p1))],false⟩)] ⟨alq 1 Qac p1 underlying27,Qkq rfl underlying27 te3 tz3 rfl (Qw6 hm3) rfl (Qw5 hm3) (Qw4 hm3) (Qsx Qac rfl),tv⟩ ?_
   obtain⟨k6,hk_k6,h⟩:=jko h
   refine wjn (τ:=Int×(List Int)) (fun t=>k6 t=some r) (fun ⟨y4,y5⟩=>⟨mk 172 [(1,(.dat 1 (p1.map Qac))),(2,.ref 0 4 0 0),(5,.ref 1 3 0 0),(6,I y1),(7,I y4),(9,(.own 2 1 (0) ((p1.length:Int).toNat)))],[(Qgh p0),Qf8,(.own 1 (y5.map Qac))]⟩) (fun t h=>?_) ?_
   ·subst hk_k6
    obtain⟨y4,y5⟩:=t
    obtain⟨hm7,h⟩:=cko h
    refine wx tbk [(1,rp _ _),(2,⟨[(.tmp 61,(I ((p1.length:Int)))),(.tmp 61,(I ((p1.length:Int))))],[(3,.unused)],(.own 3 1 (0) ((p1.length:Int).toNat)),[(3,(Zkv p1))],false⟩)] ⟨alq 1 Qac p1 underlying27,Qkq rfl underlying185 te4 tz4 rfl (Qw6 hm7) rfl (Qw5 hm7) (Qw4 hm7) (Qsx Qka rfl),tv⟩ ?_
    obtain⟨k9,hk_k9,h⟩:=jko h
    refine wjn (τ:=(List Int)) (fun t=>k9 t=some r) (fun y8=>⟨mk 172 [(1,(.dat 1 (p1.map Qac))),(2,.ref 0 4 0 0),(5,.ref 1 3 0 0),(9,(.own 2 1 (0) ((p1.length:Int).toNat)))],[(Qgh p0),Qf8,(.own 1 (y8.map Qac))]⟩) (fun y8 h=>?_) ?_
    ·subst hk_k9
     refine wx tbk [(6,rp _ _)] ⟨Qaz (vs:=[I p0.Heat,I p0.Silica,I p0.Gas]) rfl Zq4 Zmh rfl (by rfl) rfl,tv⟩<|wxz ?_
     obtain⟨k14,hk_k14,h⟩:=jko h
     refine wjn (τ:=(List Qaa)×Int×Int×Int) (fun t=>k14 t=some r) (fun ⟨y10,y11,y12,y13⟩=>⟨mk 172 [(5,.ref 0 3 0 0),(14,.ref 1 3 0 0),(15,(.acc 2 89 4 (y10.map Qad)))],[Qf8,(.own 3 [[I y11,I y12,I y13]]),.tok]⟩) (fun t h=>?_) ?_
     ·subst hk_k14
      obtain⟨y10,y11,y12,y13⟩:=t
      refine wxe<|Qai ?_
      obtain rfl:=osi h
      exact fie [(.dat 4 (y10.map Qad)),(.agg [I y11,I y12,I y13])] ⟨Qbz (v:=(.acc 2 89 4 (y10.map Qad))) rot Less.acc,Qbv (n:=0) (m:=3) (j:=0) (i:=0) (xs:=[[I y11,I y12,I y13]]) (by kernel_rfl) (by kernel_rfl) Zq9 (by decide) rfl (nle rfl) rfl,tv⟩
     ·skip
      refine wxz<|Qao ?_
      refine wmr (Mor.trans (Qpe 4 89 4 15 (by kernel_rfl) (by kernel_rfl)) (mto (n:=172) (l':=[(1,(.dat 1 (p1.map Qac))),(2,.ref 0 4 0 0),(5,.ref 1 3 0 0),(9,(.own 2 1 (0) ((p1.length:Int).toNat))),(14,.ref 3 3 0 0),(15,(.acc 4 89 4 ((([]):List Qaa).map Qad))),(16,I 0)]) (own':=[(Qgh p0),Qf8,(.own 1 (y8.map Qac)),(.own 3 [[I p0.Heat,I p0.Silica,I p0.Gas]]),.tok]) [(1,(.dat 1 (p1.map Qac))),(2,.ref 0 4 0 0),(5,.ref 1 3 0 0),(9,(.own 2 1 (0) ((p1.length:Int).toNat))),(14,.ref 3 3 0 0),(15,(.acc 4 89 4 (([]:List Qaa).map Qad))),(16,I 0)] [0,1,2,3,4] [(Qgh p0),Qf8,(.own 1 (y8.map Qac)),(.own 3 [[I p0.Heat,I p0.Silica,I p0.Gas]]),.tok] hq (pc (rnd Qah) (prr (prr (pc (.rn (Qav rfl)) (prr (pc (.rn (Qa3 rfl (Qay Qal _))) (pw pn))))))) (qb (lcc (lcc ln)) (qb (lcc (lc rwl ln)) (qc (spr Qah) (qb (lcc (lc rwl ln)) (qc .tok qn))))))) ?_
      refine Qbl (τ:=(List Qaa)×Int×Int×Int×Int) (fun n t=>Qey N p0 p1 y8 k14 n t.1 t.2.1 t.2.2.1 t.2.2.2.1 t.2.2.2.2=some r) (fun ⟨y15,y16,y17,y18,y19⟩=>⟨mk 172 [(1,(.dat 1 (p1.map Qac))),(2,.ref 0 4 0 0),(5,.ref 1 3 0 0),(9,(.own 2 1 (0) ((p1.length:Int).toNat))),(14,.ref 3 3 0 0),(15,(.acc 4 89 4 (y15.map Qad))),(16,I y16)],[(Qgh p0),Qf8,(.own 1 (y8.map Qac)),(.own 3 [[I y17,I y18,I y19]]),.tok]⟩) (fun t h=>by rw[Qey] at h;cases h) (fun n25 ih t h=>?_) N ([],0,p0.Heat,p0.Silica,p0.Gas) h
      obtain⟨y15,y16,y17,y18,y19⟩:=t
      rw[Qey] at h
      skip
      refine wsq<|wx tbk [(2,rp _ _)] ⟨alq 1 Qac p1 underlying27,tv⟩ ?_
      refine bfe h (fun hc26 h=>?_) fun hc26 h=>?_
      ·refine wft hc26<|Qam<|thn<|wsq<|Qao ?_
       obtain⟨hi27,h⟩:=cko h
       obtain⟨hi27a,hi27b⟩:=Qcv hi27
       obtain⟨x28,hg29,h⟩:=bno h
       refine wx tbk [(2,rb [(.tmp 126,(.own 2 1 (0) ((p1.length:Int).toNat))),(.tmp 127,I y16)] [(2,(.own 1 (y8.map Qac)))] (.ref 2 1 y16.toNat 0)),(3,rb [(.tmp 128,(.ref 2 1 y16.toNat 0))] [(2,(.own 1 (y8.map Qac)))] (I x28))] ⟨aio rfl underlying27 ti3 (odt hi27a) (odt hi27b) (Nat.zero_add _),ald rfl ti3 (by decide) (mgt Qac hg29) (nle rfl) rfl,tv⟩ ?_
       obtain⟨x31,hf30,h⟩:=bno h
       obtain⟨x33,hf32,h⟩:=bno h
       obtain⟨x35,hf34,h⟩:=bno h
       refine wxd tbk [(6,rp _ _),(12,rp _ _),(18,rp _ _),(19,rp _ _)] ⟨apw Q4i (Qm7 N p0.Heat x28 p0.Mass _ hf30),apw Q4i (Qm7 N p0.Silica x28 p0.Mass _ hf32),apw Q4i (Qm7 N p0.Gas x28 p0.Mass _ hf34),Qaz (vs:=[I x28,I x31,I x33,I x35]) rfl ts89 tz89 rfl (by rfl) rfl,tv⟩ ?_
       obtain⟨ha36,h⟩:=cko h
       refine wx tbk [(2,rp [(.tmp 151,(.agg [I x28,I x31,I x33,I x35]))] (.dat 4 (([(⟨x28,x31,x33,x35⟩:Qaa)]:List Qaa).map Qad))),(3,⟨[(.tmp 150,(.acc 4 89 4 (y15.map Qad))),(.tmp 152,(.dat 4 (([(⟨x28,x31,x33,x35⟩:Qaa)]:List Qaa).map Qad)))],[(4,.tok),(6,.unused)],(.acc 6 89 4 ((y15++([(⟨x28,x31,x33,x35⟩:Qaa)]):List Qaa).map Qad)),[(4,.dead),(6,.tok)],false⟩)] ⟨Qbm (vs:=[(.agg [I x28,I x31,I x33,I x35])]) rfl underlying28 ti89 tz89 rfl (by decide) rfl (by decide) (by rfl) (by rfl) (by rfl) rfl,Qc7 rfl underlying28 te89 (Base.acc _ _) rfl rfl (by rfl) (Qf7 Qad ha36) (Qf6 Qad ha36 (by decide)) (Qf5 Qad) rfl rfl,tv⟩ ?_
       exact wx1 tbk [(15,rp _ _)] ⟨Qaz (vs:=[(I (w64 (y17-x31))),(I (w64 (y18-x33))),(I (w64 (y19-x35)))]) rfl Zq4 Zmh rfl (by rfl) rfl,tv⟩<|bln<|thn<|wxz1<|thn<|arm (mto (n:=172) [(1,(.dat 1 (p1.map Qac))),(2,.ref 0 4 0 0),(5,.ref 1 3 0 0),(9,(.own 2 1 (0) ((p1.length:Int).toNat))),(14,.ref 3 3 0 0),(15,(.acc 6 89 4 ((y15++([(⟨x28,x31,x33,x35⟩:Qaa)]):List Qaa).map Qad))),(16,(I (w64 (y16+1))))] [0,1,2,3,6] [(Qgh p0),Qf8,(.own 1 (y8.map Qac)),(.own 3 [[(I (w64 (y17-x31))),(I (w64 (y18-x33))),(I (w64 (y19-x35)))]]),.tok] hq (pc (rnd Qah) (prr (prr (pc (.rn (Qav rfl)) (prr (pc (.rn (Qa3 rfl (Qay Qal _))) (pw pn))))))) (qb (lcc (lcc ln)) (qb (lcc (lc rwl ln)) (qc (spr Qah) (qb (lcc (lc rwl ln)) (qc .tok qn)))))) (ih (y15++([(⟨x28,x31,x33,x35⟩:Qaa)]),w64 (y16+1),w64 (y17-x31),w64 (y18-x33),w64 (y19-x35)) h)
      ·exact wfn hc26<|Qa7<|Qau<|Qau<|Qa6 rfl<|thn<|⟨(y15,y17,y18,y19),h,(mto (n:=172) [(5,.ref 1 3 0 0),(14,.ref 3 3 0 0),(15,(.acc 4 89 4 (y15.map Qad)))] [1,3,4] [Qf8,(.own 3 [[I y17,I y18,I y19]]),.tok] hq (prr (prr (pc (.rn (Qa3 rfl (Qay Qal _))) pn))) (qb (lcc (lc rwl ln)) (qb (lcc (lc rwl ln)) (qc .tok qn))))⟩
    ·skip
     refine Qao<|wmr (mto (n:=172) (l':=[(1,(.dat 1 (p1.map Qac))),(2,.ref 0 4 0 0),(5,.ref 1 3 0 0),(6,I y1),(7,I y4),(9,(.own 2 1 (0) ((p1.length:Int).toNat))),(11,(.own 3 1 (0) ((p1.length:Int).toNat)))]) (own':=[(Qgh p0),Qf8,(.own 1 (y5.map Qac)),(.own 1 (((List.replicate (p1.length:Int).toNat false):List Bool).map Qka))]) [(1,(.dat 1 (p1.map Qac))),(2,.ref 0 4 0 0),(5,.ref 1 3 0 0),(6,I y1),(7,I y4),(9,(.own 2 1 (0) ((p1.length:Int).toNat))),(11,(.own 3 1 (0) ((p1.length:Int).toNat)))] [0,1,2,3] [(Qgh p0),Qf8,(.own 1 (y5.map Qac)),(Zkv p1)] hq (pc (rnd Qah) (prr (prr (pw (pw (pc (.rn (Qav rfl)) (pc (.rn (Qav rfl)) pn))))))) (qb (lcc (lcc ln)) (qb (lcc (lc rwl ln)) (qc (spr Qah) (qc (spr Qih) qn))))) ?_
     refine Qbl (τ:=Int×(List Int)×(List Bool)) (fun n t=>Qex N p0 p1 y1 k9 n t.1 t.2.1 t.2.2=some r) (fun ⟨y37,y38,y39⟩=>⟨mk 172 [(1,(.dat 1 (p1.map Qac))),(2,.ref 0 4 0 0),(5,.ref 1 3 0 0),(6,I y1),(7,I y37),(9,(.own 2 1 (0) ((p1.length:Int).toNat))),(11,(.own 3 1 (0) ((p1.length:Int).toNat)))],[(Qgh p0),Qf8,(.own 1 (y38.map Qac)),(Qjo y39)]⟩) (fun t h=>by rw[Qex] at h;cases h) (fun n43 ih t h=>?_) N (y4,y5,List.replicate (p1.length:Int).toNat false) h
     obtain⟨y37,y38,y39⟩:=t
     rw[Qex] at h
     skip
     refine wsq<|wxz ?_
     refine bfe h (fun hc44 h=>?_) fun hc44 h=>?_
     ·refine wft hc44<|Qam<|thn<|Qao<|wxz ?_
      obtain⟨k46,hk_k46,h⟩:=jko h
      refine wjn (τ:=Int) (fun t=>k46 t=some r) (fun y45=>⟨mk 172 [(1,(.dat 1 (p1.map Qac))),(2,.ref 0 4 0 0),(5,.ref 1 3 0 0),(6,I y1),(7,I y37),(9,(.own 2 1 (0) ((p1.length:Int).toNat))),(11,(.own 3 1 (0) ((p1.length:Int).toNat))),(12,I y45)],[(Qgh p0),Qf8,(.own 1 (y38.map Qac)),(Qjo y39)]⟩) (fun y45 h=>?_) ?_
      ·subst hk_k46
       obtain⟨hi47,h⟩:=cko h
       obtain⟨hi47a,hi47b⟩:=Qcv hi47
       obtain⟨x48,hg49,h⟩:=bno h
       refine wx tbk [(2,rb [(.tmp 102,(.own 3 1 (0) ((p1.length:Int).toNat))),(.tmp 103,I y45)] [(3,(Qjo y39))] (.ref 3 1 y45.toNat 0)),(3,⟨[(.tmp 104,(.ref 3 1 y45.toNat 0)),cb true],[(3,(Qjo y39))],.any,[(3,(.own 1 ((y39.set y45.toNat true:List Bool).map Qka)))],false⟩)] ⟨aio rfl underlying185 ti4 (odt hi47a) (odt hi47b) (Nat.zero_add _),ast rfl ti4 (by rfl) (mgt Qka hg49) (nle rfl) (Qff Qka rfl),tv⟩ ?_
       obtain⟨hi50,h⟩:=cko h
       obtain⟨hi50a,hi50b⟩:=Qcv hi50
       obtain⟨x51,hg52,h⟩:=bno h
       obtain⟨hi53,h⟩:=cko h
       obtain⟨hi53a,hi53b⟩:=Qcv hi53
       obtain⟨x54,hg55,h⟩:=bno h
       refine wx tbk [(2,rb [(.tmp 105,(.own 2 1 (0) ((p1.length:Int).toNat))),(.tmp 106,I y45)] [(2,(.own 1 (y38.map Qac)))] (.ref 2 1 y45.toNat 0)),(3,rb [(.tmp 107,(.ref 2 1 y45.toNat 0))] [(2,(.own 1 (y38.map Qac)))] (I x51)),(5,rb [(.tmp 105,(.own 2 1 (0) ((p1.length:Int).toNat))),(.tmp 106,I y45)] [(2,(.own 1 (y38.map Qac)))] (.ref 2 1 y45.toNat 0)),(6,⟨[(.tmp 110,(.ref 2 1 y45.toNat 0)),(.tmp 109,(I (w64 (x51+1))))],[(2,(.own 1 (y38.map Qac)))],.any,[(2,(.own 1 ((y38.set y45.toNat (w64 (x51+1)):List Int).map Qac)))],false⟩)] ⟨aio rfl underlying27 ti3 (odt hi50a) (odt hi50b) (Nat.zero_add _),ald rfl ti3 (by decide) (mgt Qac hg52) (nle rfl) rfl,aio rfl underlying27 ti3 (odt hi53a) (odt hi53b) (Nat.zero_add _),ast rfl ti3 (by rfl) (mgt Qac hg55) (nle rfl) (Qff Qac rfl),tv⟩<|wxz1<|bln<|thn ?_
       exact arm (mto (n:=172) [(1,(.dat 1 (p1.map Qac))),(2,.ref 0 4 0 0),(5,.ref 1 3 0 0),(6,I y1),(7,(I (w64 (y37-1)))),(9,(.own 2 1 (0) ((p1.length:Int).toNat))),(11,(.own 3 1 (0) ((p1.length:Int).toNat)))] [0,1,2,3] [(Qgh p0),Qf8,(.own 1 ((y38.set y45.toNat (w64 (x51+1)):List Int).map Qac)),(.own 1 ((y39.set y45.toNat true:List Bool).map Qka))] hq (pc (rnd Qah) (prr (prr (pw (pw (pc (.rn (Qav rfl)) (pc (.rn (Qav rfl)) pn))))))) (qb (lcc (lcc ln)) (qb (lcc (lc rwl ln)) (qc (spr Qah) (qc (spr Qih) qn))))) (ih (w64 (y37-1),y38.set y45.toNat (w64 (x51+1)),y39.set y45.toNat true) h)
      ·skip
       refine wxz<|Qao ?_
       refine wmr (mto (n:=172) (l':=[(1,(.dat 1 (p1.map Qac))),(2,.ref 0 4 0 0),(5,.ref 1 3 0 0),(6,I y1),(7,I y37),(9,(.own 2 1 (0) ((p1.length:Int).toNat))),(11,(.own 3 1 (0) ((p1.length:Int).toNat))),(12,(I ((-1)))),(13,I 0)]) (own':=[(Qgh p0),Qf8,(.own 1 (y38.map Qac)),(Qjo y39)]) [(1,(.dat 1 (p1.map Qac))),(2,.ref 0 4 0 0),(5,.ref 1 3 0 0),(6,I y1),(7,I y37),(9,(.own 2 1 (0) ((p1.length:Int).toNat))),(11,(.own 3 1 (0) ((p1.length:Int).toNat))),(12,(I ((-1)))),(13,I 0)] [0,1,2,3] [(Qgh p0),Qf8,(.own 1 (y38.map Qac)),(Qjo y39)] hq (pc (rnd Qah) (prr (prr (pw (pw (pc (.rn (Qav rfl)) (pc (.rn (Qav rfl)) (pw (pw pn))))))))) (qb (lcc (lcc ln)) (qb (lcc (lc rwl ln)) (qc (spr Qah) (qc (spr Qih) qn))))) ?_
       refine Qbl (τ:=Int×Int) (fun n t=>Qc1 N p0 p1 y1 y39 k46 n t.1 t.2=some r) (fun ⟨y56,y57⟩=>⟨mk 172 [(1,(.dat 1 (p1.map Qac))),(2,.ref 0 4 0 0),(5,.ref 1 3 0 0),(6,I y1),(7,I y37),(9,(.own 2 1 (0) ((p1.length:Int).toNat))),(11,(.own 3 1 (0) ((p1.length:Int).toNat))),(12,I y56),(13,I y57)],[(Qgh p0),Qf8,(.own 1 (y38.map Qac)),(Qjo y39)]⟩) (fun t h=>by rw[Qc1] at h;cases h) (fun n60 ih t h=>?_) N ((-1),0) h
       obtain⟨y56,y57⟩:=t
       rw[Qc1] at h
       skip
       refine wsq<|wx tbk [(2,rp _ _)] ⟨alq 1 Qac p1 underlying27,tv⟩ ?_
       refine bfe h (fun hc61 h=>?_) fun hc61 h=>?_
       ·refine wft hc61<|Qam<|thn<|wsq<|Qao ?_
        obtain⟨hi62,h⟩:=cko h
        obtain⟨hi62a,hi62b⟩:=Qcv hi62
        obtain⟨x63,hg64,h⟩:=bno h
        refine hpre (A:=(Qy4 p1 y57 y39 x63)) ⟨aio rfl underlying185 ti4 (odt hi62a) (odt hi62b) (Nat.zero_add _),ald rfl ti4 (by decide) (mgt Qka hg64) (nle rfl) rfl,tv⟩ fun q1_=>?_
        refine bfe h (fun hb65 h=>?_) fun hb65 h=>?_
        ·refine bfe h (fun hb66 h=>?_) fun hb66 h=>?_
         ·exact wxd tbk (hcat (Qy4 p1 y57 y39 x63) [(5,rp [(.tmp 75,(B ((!x63))))] (B true)),(8,rp [(.tmp 76,B true),(.tmp 78,(B ((decide (y56<0)))))] (B true))]) (hap q1_ ⟨asb hb65 (amv rfl),asb hb66 (ag_ (amv rfl)),tv⟩)<|wtr<|wxz1<|bln<|thn<|wxz1<|thn<|arm (mto (n:=172) [(1,(.dat 1 (p1.map Qac))),(2,.ref 0 4 0 0),(5,.ref 1 3 0 0),(6,I y1),(7,I y37),(9,(.own 2 1 (0) ((p1.length:Int).toNat))),(11,(.own 3 1 (0) ((p1.length:Int).toNat))),(12,I y57),(13,(I (w64 (y57+1))))] [0,1,2,3] [(Qgh p0),Qf8,(.own 1 (y38.map Qac)),(Qjo y39)] hq (pc (rnd Qah) (prr (prr (pw (pw (pc (.rn (Qav rfl)) (pc (.rn (Qav rfl)) (pw (pw pn))))))))) (qb (lcc (lcc ln)) (qb (lcc (lc rwl ln)) (qc (spr Qah) (qc (spr Qih) qn))))) (ih (y57,w64 (y57+1)) h)
         ·obtain⟨x67,hg68,h⟩:=bno h
          obtain⟨hi69,hj70⟩:=gsm hg68
          obtain⟨hz71,h⟩:=cko h
          obtain⟨x72,hg73,h⟩:=bno h
          obtain⟨hi74,hj75⟩:=gsm hg73
          obtain⟨hz76,h⟩:=cko h
          refine wxd tbk (hcat (Qy4 p1 y57 y39 x63) [(5,rp [(.tmp 75,(B ((!x63))))] (B true)),(8,rp [(.tmp 76,B true),(.tmp 78,(B ((decide (y56<0)))))] (B false)),(13,rp [(.tmp 79,B false),(.tmp 82,(.dat 1 (p1.map Qac))),(.tmp 83,I y57)] (.dptr (Qac x67) 0)),(17,rp [(.tmp 79,B false),(.tmp 86,(I (w64 (p0.Mass*x67)))),(.tmp 87,I y1)] (I ((w64 (p0.Mass*x67)).tmod y1))),(22,rp [(.tmp 79,B false),(.tmp 91,(.dat 1 (p1.map Qac))),(.tmp 92,I y56)] (.dptr (Qac x72) 0)),(26,rp [(.tmp 79,B false),(.tmp 95,(I (w64 (p0.Mass*x72)))),(.tmp 96,I y1)] (I ((w64 (p0.Mass*x72)).tmod y1)))]) (hap q1_ ⟨asb hb65 (amv rfl),asb hb66 (ag_ (amv rfl)),ag_ (aiq underlying27 ti3 Qac hi69 hj70),ag_ (Qsj rfl (Qko hz71)),ag_ (aiq underlying27 ti3 Qac hi74 hj75),ag_ (Qsj rfl (Qko hz76)),tv⟩) ?_
          refine bfe h (fun hc77 h=>?_) fun hc77 h=>?_
          ·exact wft hc77<|wxz1<|bln<|thn<|wxz1<|thn<|arm (mto (n:=172) [(1,(.dat 1 (p1.map Qac))),(2,.ref 0 4 0 0),(5,.ref 1 3 0 0),(6,I y1),(7,I y37),(9,(.own 2 1 (0) ((p1.length:Int).toNat))),(11,(.own 3 1 (0) ((p1.length:Int).toNat))),(12,I y57),(13,(I (w64 (y57+1))))] [0,1,2,3] [(Qgh p0),Qf8,(.own 1 (y38.map Qac)),(Qjo y39)] hq (pc (rnd Qah) (prr (prr (pw (pw (pc (.rn (Qav rfl)) (pc (.rn (Qav rfl)) (pw (pw pn))))))))) (qb (lcc (lcc ln)) (qb (lcc (lc rwl ln)) (qc (spr Qah) (qc (spr Qih) qn))))) (ih (y57,w64 (y57+1)) h)
          ·exact wfn hc77<|Qam<|bln<|thn<|wxz1<|thn<|arm (mto (n:=172) [(1,(.dat 1 (p1.map Qac))),(2,.ref 0 4 0 0),(5,.ref 1 3 0 0),(6,I y1),(7,I y37),(9,(.own 2 1 (0) ((p1.length:Int).toNat))),(11,(.own 3 1 (0) ((p1.length:Int).toNat))),(12,I y56),(13,(I (w64 (y57+1))))] [0,1,2,3] [(Qgh p0),Qf8,(.own 1 (y38.map Qac)),(Qjo y39)] hq (pc (rnd Qah) (prr (prr (pw (pw (pc (.rn (Qav rfl)) (pc (.rn (Qav rfl)) (pw (pw pn))))))))) (qb (lcc (lcc ln)) (qb (lcc (lc rwl ln)) (qc (spr Qah) (qc (spr Qih) qn))))) (ih (y56,w64 (y57+1)) h)
        ·exact wxd tbk (hcat (Qy4 p1 y57 y39 x63) [(5,rp [(.tmp 75,(B ((!x63))))] (B false))]) (hap q1_ ⟨asb hb65 (amv rfl),tv⟩)<|wfa<|Qam<|bln<|thn<|wxz1<|thn<|arm (mto (n:=172) [(1,(.dat 1 (p1.map Qac))),(2,.ref 0 4 0 0),(5,.ref 1 3 0 0),(6,I y1),(7,I y37),(9,(.own 2 1 (0) ((p1.length:Int).toNat))),(11,(.own 3 1 (0) ((p1.length:Int).toNat))),(12,I y56),(13,(I (w64 (y57+1))))] [0,1,2,3] [(Qgh p0),Qf8,(.own 1 (y38.map Qac)),(Qjo y39)] hq (pc (rnd Qah) (prr (prr (pw (pw (pc (.rn (Qav rfl)) (pc (.rn (Qav rfl)) (pw (pw pn))))))))) (qb (lcc (lcc ln)) (qb (lcc (lc rwl ln)) (qc (spr Qah) (qc (spr Qih) qn))))) (ih (y56,w64 (y57+1)) h)
       ·exact wfn hc61<|Qa7<|Qau<|Qau<|Qa6 rfl<|thn<|⟨(y56),h,(mto (n:=172) [(1,(.dat 1 (p1.map Qac))),(2,.ref 0 4 0 0),(5,.ref 1 3 0 0),(6,I y1),(7,I y37),(9,(.own 2 1 (0) ((p1.length:Int).toNat))),(11,(.own 3 1 (0) ((p1.length:Int).toNat))),(12,I y56)] [0,1,2,3] [(Qgh p0),Qf8,(.own 1 (y38.map Qac)),(Qjo y39)] hq (pc (rnd Qah) (prr (prr (pw (pw (pc (.rn (Qav rfl)) (pc (.rn (Qav rfl)) (pw pn)))))))) (qb (lcc (lcc ln)) (qb (lcc (lc rwl ln)) (qc (spr Qah) (qc (spr Qih) qn)))))⟩
     ·exact wfn hc44<|Qa7<|Qau<|Qau<|Qa6 rfl<|thn<|⟨(y38),h,(mto (n:=172) [(1,(.dat 1 (p1.map Qac))),(2,.ref 0 4 0 0),(5,.ref 1 3 0 0),(9,(.own 2 1 (0) ((p1.length:Int).toNat)))] [0,1,2] [(Qgh p0),Qf8,(.own 1 (y38.map Qac))] hq (pc (rnd Qah) (prr (prr (pc (.rn (Qav rfl)) pn)))) (qb (lcc (lcc ln)) (qb (lcc (lc rwl ln)) (qc (spr Qah) qn))))⟩
   ·skip
    refine wxz<|Qao ?_
    refine wmr (mto (n:=172) (l':=[(1,(.dat 1 (p1.map Qac))),(2,.ref 0 4 0 0),(5,.ref 1 3 0 0),(6,I y1),(7,I p0.Mass),(9,(.own 2 1 (0) ((p1.length:Int).toNat))),(10,I 0)]) (own':=[(Qgh p0),Qf8,(.own 1 (((List.replicate (p1.length:Int).toNat 0):List Int).map Qac))]) [(1,(.dat 1 (p1.map Qac))),(2,.ref 0 4 0 0),(5,.ref 1 3 0 0),(6,I y1),(7,I p0.Mass),(9,(.own 2 1 (0) ((p1.length:Int).toNat))),(10,I 0)] [0,1,2] [(Qgh p0),Qf8,(Zkw p1)] hq (pc (rnd Qah) (prr (prr (pw (pw (pc (.rn (Qav rfl)) (pw pn))))))) (qb (lcc (lcc ln)) (qb (lcc (lc rwl ln)) (qc (spr Qah) qn)))) ?_
    refine Qbl (τ:=Int×Int×(List Int)) (fun n t=>Qew N p0 p1 y1 k6 n t.1 t.2.1 t.2.2=some r) (fun ⟨y78,y79,y80⟩=>⟨mk 172 [(1,(.dat 1 (p1.map Qac))),(2,.ref 0 4 0 0),(5,.ref 1 3 0 0),(6,I y1),(7,I y78),(9,(.own 2 1 (0) ((p1.length:Int).toNat))),(10,I y79)],[(Qgh p0),Qf8,(.own 1 (y80.map Qac))]⟩) (fun t h=>by rw[Qew] at h;cases h) (fun n84 ih t h=>?_) N (p0.Mass,0,List.replicate (p1.length:Int).toNat 0) h
    obtain⟨y78,y79,y80⟩:=t
    rw[Qew] at h
    skip
    refine wsq<|wx tbk [(2,rp _ _)] ⟨alq 1 Qac p1 underlying27,tv⟩ ?_
    refine bfe h (fun hc85 h=>?_) fun hc85 h=>?_
    ·refine wft hc85<|Qam<|thn<|wsq<|Qao ?_
     obtain⟨x86,hg87,h⟩:=bno h
     obtain⟨hi88,hj89⟩:=gsm hg87
     obtain⟨hz90,h⟩:=cko h
     obtain⟨hi91,h⟩:=cko h
     obtain⟨hi91a,hi91b⟩:=Qcv hi91
     obtain⟨x92,hg93,h⟩:=bno h
     refine wxd tbk [(6,rp _ _),(10,rp [(.tmp 50,(I (w64 (p0.Mass*x86)))),(.tmp 51,I y1)] (I (w64 ((w64 (p0.Mass*x86)).tdiv y1)))),(11,rb [(.tmp 42,(.own 2 1 (0) ((p1.length:Int).toNat))),(.tmp 43,I y79)] [(2,(.own 1 (y80.map Qac)))] (.ref 2 1 y79.toNat 0)),(12,⟨[(.tmp 53,(.ref 2 1 y79.toNat 0)),(.tmp 52,(I (w64 ((w64 (p0.Mass*x86)).tdiv y1))))],[(2,(.own 1 (y80.map Qac)))],.any,[(2,(Qy5 y80 y79 p0 x86 y1))],false⟩)] ⟨aiq underlying27 ti3 Qac hi88 hj89,Qkc rfl (Qko hz90),aio rfl underlying27 ti3 (odt hi91a) (odt hi91b) (Nat.zero_add _),ast rfl ti3 (by rfl) (mgt Qac hg93) (nle rfl) (Qff Qac rfl),tv⟩ ?_
     obtain⟨hi94,h⟩:=cko h
     obtain⟨hi94a,hi94b⟩:=Qcv hi94
     obtain⟨x95,hg96,h⟩:=bno h
     refine wx1 tbk [(3,rb [(.tmp 55,(.own 2 1 (0) ((p1.length:Int).toNat))),(.tmp 56,I y79)] [(2,(Qy5 y80 y79 p0 x86 y1))] (.ref 2 1 y79.toNat 0)),(4,rb [(.tmp 57,(.ref 2 1 y79.toNat 0))] [(2,(Qy5 y80 y79 p0 x86 y1))] (I x95))] ⟨aio rfl underlying27 ti3 (odt hi94a) (odt hi94b) (Nat.zero_add _),ald rfl ti3 (by decide) (mgt Qac hg96) (nle rfl) rfl,tv⟩<|bln<|thn<|wxz1<|thn ?_
     exact arm (mto (n:=172) [(1,(.dat 1 (p1.map Qac))),(2,.ref 0 4 0 0),(5,.ref 1 3 0 0),(6,I y1),(7,(I (w64 (y78-x95)))),(9,(.own 2 1 (0) ((p1.length:Int).toNat))),(10,(I (w64 (y79+1))))] [0,1,2] [(Qgh p0),Qf8,(Qy5 y80 y79 p0 x86 y1)] hq (pc (rnd Qah) (prr (prr (pw (pw (pc (.rn (Qav rfl)) (pw pn))))))) (qb (lcc (lcc ln)) (qb (lcc (lc rwl ln)) (qc (spr Qah) qn)))) (ih (w64 (y78-x95),w64 (y79+1),y80.set y79.toNat (w64 ((w64 (p0.Mass*x86)).tdiv y1))) h)
    ·exact wfn hc85<|Qa7<|Qau<|Qau<|Qa6 rfl<|thn<|⟨(y78,y80),h,(mto (n:=172) [(1,(.dat 1 (p1.map Qac))),(2,.ref 0 4 0 0),(5,.ref 1 3 0 0),(6,I y1),(7,I y78),(9,(.own 2 1 (0) ((p1.length:Int).toNat)))] [0,1,2] [(Qgh p0),Qf8,(.own 1 (y80.map Qac))] hq (pc (rnd Qah) (prr (prr (pw (pw (pc (.rn (Qav rfl)) pn)))))) (qb (lcc (lcc ln)) (qb (lcc (lc rwl ln)) (qc (spr Qah) qn))))⟩
  ·skip
   refine wxz<|Qao ?_
   refine wmr (mto (n:=172) (l':=[(1,(.dat 1 (p1.map Qac))),(2,.ref 0 4 0 0),(5,.ref 1 3 0 0),(6,I 0),(7,I p0.Mass),(8,I 0)]) (own':=[(Qgh p0),Qf8]) [(1,(.dat 1 (p1.map Qac))),(2,.ref 0 4 0 0),(5,.ref 1 3 0 0),(6,I 0),(7,I p0.Mass),(8,I 0)] [0,1] [(Qgh p0),Qf8] hq (pc (rnd Qah) (prr (prr (pw (pw (pw pn)))))) (qb (lcc (lcc ln)) (qb (lcc (lc rwl ln)) qn))) ?_
   refine Qbl (τ:=Int×Int) (fun n t=>Qev N p1 k2 n t.1 t.2=some r) (fun ⟨y97,y98⟩=>⟨mk 172 [(1,(.dat 1 (p1.map Qac))),(2,.ref 0 4 0 0),(5,.ref 1 3 0 0),(6,I y97),(7,I p0.Mass),(8,I y98)],[(Qgh p0),Qf8]⟩) (fun t h=>by rw[Qev] at h;cases h) (fun n101 ih t h=>?_) N (0,0) h
   obtain⟨y97,y98⟩:=t
   rw[Qev] at h
   skip
   refine wsq<|wx tbk [(2,rp _ _)] ⟨alq 1 Qac p1 underlying27,tv⟩ ?_
   refine bfe h (fun hc102 h=>?_) fun hc102 h=>?_
   ·refine wft hc102<|Qam<|thn<|wsq<|Qao ?_
    obtain⟨x103,hg104,h⟩:=bno h
    obtain⟨hi105,hj106⟩:=gsm hg104
    exact wx1 tbk [(3,rp _ _)] ⟨aiq underlying27 ti3 Qac hi105 hj106,tv⟩<|bln<|thn<|wxz1<|thn<|arm (mto (n:=172) [(1,(.dat 1 (p1.map Qac))),(2,.ref 0 4 0 0),(5,.ref 1 3 0 0),(6,(I (w64 (y97+x103)))),(7,I p0.Mass),(8,(I (w64 (y98+1))))] [0,1] [(Qgh p0),Qf8] hq (pc (rnd Qah) (prr (prr (pw (pw (pw pn)))))) (qb (lcc (lcc ln)) (qb (lcc (lc rwl ln)) qn))) (ih (w64 (y97+x103),w64 (y98+1)) h)
   ·exact wfn hc102<|Qa7<|Qau<|Qau<|Qa6 rfl<|thn<|⟨(y97),h,(mto (n:=172) [(1,(.dat 1 (p1.map Qac))),(2,.ref 0 4 0 0),(5,.ref 1 3 0 0),(6,I y97),(7,I p0.Mass)] [0,1] [(Qgh p0),Qf8] hq (pc (rnd Qah) (prr (prr (pw (pw pn))))) (qb (lcc (lcc ln)) (qb (lcc (lc rwl ln)) qn)))⟩
def Qdu (N:Nat) (p0:List Qaa) (k1:Unit→Option Bool):Nat→Int→Option Bool
  |0,_=>none
  |n4+1,y2=>
    bif (decide (y2<(p0.length:Int))) then
     (getI p0 y2).bind fun x6=>
     (Qg7 N x6).bind fun x11=>
     bif (!x11) then
      some false
     else
      Qdu N p0 k1 n4 (w64 (y2+1))
    else
     k1 ()
def Qi2 (N:Nat) (p0:List Qaa):Option Bool:=
  Qbc (fun _=>
    some true) fun k1:Unit→Option Bool=>
  Qdu N p0 k1 N 0
def Q55 (p0:List Qaa):AV:=.dat 4 (p0.map Qad)
theorem Qs0 (N:Nat) (p0:List Qaa) (r:Bool) (h:Qi2 N p0=some r):Spec prog 98 [(.dat 4 (p0.map Qad))] [] (B r) []:=by
  refine sA func98 0 fun _ _ _ hq hd0=>?_
  unfold Qi2 at h
  refine wxz ?_
  obtain⟨k1,hk_k1,h⟩:=jko h
  refine wjn (τ:=Unit) (fun t=>k1 t=some r) (fun _=>⟨mk 16 [],[]⟩) (fun t h=>?_) ?_
  ·subst hk_k1
   exact wxz<|Qai<|frb h
  ·skip
   refine wxz<|Qao ?_
   refine wmr (mto (n:=16) (l':=[(0,(Q55 p0)),(3,I 0)]) (own':=[]) [(0,(Q55 p0)),(3,I 0)] [] [] hq (pc (rnd Qal) (pw pn)) qn) ?_
   refine Qbl (τ:=Int) (fun n t=>Qdu N p0 k1 n t=some r) (fun y2=>⟨mk 16 [(0,(Q55 p0)),(3,I y2)],[]⟩) (fun t h=>by rw[Qdu] at h;cases h) (fun n4 ih y2 h=>?_) N (0) h
   rw[Qdu] at h
   skip
   refine wsq<|wx tbk [(2,rp _ _)] ⟨alq 4 Qad p0 underlying28,tv⟩ ?_
   refine bfe h (fun hc5 h=>?_) fun hc5 h=>?_
   ·refine wft hc5<|Qam<|thn<|wsq<|Qao ?_
    obtain⟨x6,hg7,h⟩:=bno h
    obtain⟨hi8,hj9⟩:=gsm hg7
    obtain⟨x11,hf10,h⟩:=bno h
    refine wx tbk [(2,rp _ _),(4,rp _ _)] ⟨aiq underlying28 ti89 Qad hi8 hj9,apw Zil (Qo9 N x6 _ hf10),tv⟩ ?_
    refine bfe h (fun hc12 h=>?_) fun hc12 h=>?_
    ·exact wft hc12<|wxz<|Qai<|Qar<|Qaj<|Qaj<|Qar<|Qaj<|frb h
    ·exact wfn hc12<|Qam<|bln<|thn<|wxz1<|thn<|arm (mto (n:=16) [(0,(Q55 p0)),(3,(I (w64 (y2+1))))] [] [] hq (pc (rnd Qal) (pw pn)) qn) (ih (w64 (y2+1)) h)
   ·exact wfn hc5<|Qa7<|Qau<|Qau<|Qa6 rfl<|thn<|⟨(),h,(mto (n:=16) [] [] [] hq pn qn)⟩
def Qc0 (N:Nat) (p0:GNet) (p1:Int) (k2:Int→Option Int):Nat→Int→Int→Option Int
  |0,_,_=>none
  |n7+1,y3,y4=>
    bif (decide (y4<(p0.Elements.length:Int))) then
     (getI p0.Elements y4).bind fun x9=>
     bif (x9.Kind==p1) then
      Qc0 N p0 p1 k2 n7 (w64 (y3+1)) (w64 (y4+1))
     else
      Qc0 N p0 p1 k2 n7 y3 (w64 (y4+1))
    else
     k2 (y3)
def Qgc (N:Nat) (p0:GNet) (p1:Int):Option Int:=
  Qbc (fun y1=>
    some y1) fun k2:Int→Option Int=>
  Qc0 N p0 p1 k2 N 0 0
def Zqu (p0:GNet):AV:=.dat 7 (p0.Elements.map Qae)
def Q08 (p0:GNet):Slot:=.own 2 [[(.dat 5 (p0.Table.map Qap)),(Zqu p0)]]
theorem Qjz (N:Nat) (p0:GNet) (p1 r:Int) (h:Qgc N p0 p1=some r):Spec prog 29 [(.agg (Qgw p0)),(K .u8 p1)] [] (I r) []:=by
  refine sA func29 0 fun _ _ _ hq hd0=>?_
  unfold Qgc at h
  refine wxz<|wxz ?_
  obtain⟨k2,hk_k2,h⟩:=jko h
  refine wjn (τ:=Int) (fun t=>k2 t=some r) (fun y1=>⟨mk 25 [(5,I y1)],[]⟩) (fun y1 h=>?_) ?_
  ·subst hk_k2
   refine wxz<|Qai ?_
   obtain rfl:=osi h
   exact fend ⟨[I y1],⟨rot,tv⟩,rfl⟩ nll
  ·skip
   refine wxz<|Qao ?_
   refine wmr (mto (n:=25) (l':=[(1,(K .u8 p1)),(2,.ref 0 2 0 0),(5,I 0),(6,I 0)]) (own':=[(Q08 p0)]) [(1,(K .u8 p1)),(2,.ref 0 2 0 0),(5,I 0),(6,I 0)] [0] [(Q08 p0)] hq (pw (prr (pw (pw pn)))) (qb (lc (rnd Qan) (lc (rnd Qab) ln)) qn)) ?_
   refine Qbl (τ:=Int×Int) (fun n t=>Qc0 N p0 p1 k2 n t.1 t.2=some r) (fun ⟨y3,y4⟩=>⟨mk 25 [(1,(K .u8 p1)),(2,.ref 0 2 0 0),(5,I y3),(6,I y4)],[(Q08 p0)]⟩) (fun t h=>by rw[Qc0] at h;cases h) (fun n7 ih t h=>?_) N (0,0) h
   obtain⟨y3,y4⟩:=t
   rw[Qc0] at h
   skip
   refine wsq<|wx tbk [(3,rp _ _)] ⟨alq 7 Qae p0.Elements underlying24,tv⟩ ?_
   refine bfe h (fun hc8 h=>?_) fun hc8 h=>?_
   ·refine wft hc8<|Qam<|thn<|wsq<|Qao ?_
    obtain⟨x9,hg10,h⟩:=bno h
    obtain⟨hi11,hj12⟩:=gsm hg10
    refine wx tbk [(3,rp _ _)] ⟨aiq underlying24 ti59 Qae hi11 hj12,tv⟩ ?_
    refine bfe h (fun hc13 h=>?_) fun hc13 h=>?_
    ·exact wft hc13<|wxz1<|bln<|thn<|wxz1<|thn<|arm (mto (n:=25) [(1,(K .u8 p1)),(2,.ref 0 2 0 0),(5,(I (w64 (y3+1)))),(6,(I (w64 (y4+1))))] [0] [(Q08 p0)] hq (pw (prr (pw (pw pn)))) (qb (lc (rnd Qan) (lc (rnd Qab) ln)) qn)) (ih (w64 (y3+1),w64 (y4+1)) h)
    ·exact wfn hc13<|Qam<|bln<|thn<|wxz1<|thn<|arm (mto (n:=25) [(1,(K .u8 p1)),(2,.ref 0 2 0 0),(5,I y3),(6,(I (w64 (y4+1))))] [0] [(Q08 p0)] hq (pw (prr (pw (pw pn)))) (qb (lc (rnd Qan) (lc (rnd Qab) ln)) qn)) (ih (y3,w64 (y4+1)) h)
   ·exact wfn hc8<|Qa7<|Qau<|Qau<|Qa6 rfl<|thn<|⟨(y3),h,(mto (n:=25) [(5,I y3)] [] [] hq (pw pn) qn)⟩
def Qh7 (N:Nat) (p0:GNet) (p1:List Qaa):Option Int:=
  Qbc (fun _=>
    (Qiq N p1).bind fun x3=>
    bif (decide (x3.Mass>1000000)) then
     some 3
    else
     bif (decide (x3.Gas>1000000000)) then
      some 3
     else
      some 0) fun k1:Unit→Option Int=>
  (Qgc N p0 1).bind fun x7=>
  bif ((p1.length:Int) != x7) then
   some 1
  else
   (Qi2 N p1).bind fun x10=>
   bif (!x10) then
    some 1
   else
    k1 ()
def Q54 (p1:List Qaa):AV:=.dat 4 (p1.map Qad)
def Zqt (p0:GNet):AV:=.dat 7 (p0.Elements.map Qae)
def Zbr (p1:List Qaa) (p0:GNet) (x7:Int):List (Nat×Rec):=[(1,rp [((.tmp 6),(Q54 p1))] (I ((p1.length:Int)))),(3,rp [fu 29,((.tmp 8),(.agg [(.dat 5 (p0.Table.map Qap)),(Zqt p0)])),((.const (.int .u8 1)),(K .u8 (1)))] (I x7))]
theorem Qqt (N:Nat) (p0:GNet) (p1:List Qaa) (r:Int) (h:Qh7 N p0 p1=some r):Spec prog 61 [(.agg (Qgw p0)),(.dat 4 (p1.map Qad))] [] (I r) []:=by
  refine sA func61 0 fun _ _ _ hq hd0=>?_
  unfold Qh7 at h
  refine wxz ?_
  obtain⟨k1,hk_k1,h⟩:=jko h
  refine wjn (τ:=Unit) (fun t=>k1 t=some r) (fun _=>⟨mk 26 [(1,(Q54 p1))],[]⟩) (fun t h=>?_) ?_
  ·subst hk_k1
   obtain⟨x3,hf2,h⟩:=bno h
   refine wx tbk [(1,rp _ _)] ⟨apw Q4l (Qnz N p1 _ hf2),tv⟩<|wsq ?_
   refine bfe h (fun hb4 h=>?_) fun hb4 h=>?_
   ·refine wx tbk [(3,rp [(.tmp 20,(B ((decide (x3.Mass>1000000)))))] (B true))] ⟨asb hb4 (amv rfl),tv⟩<|wtr<|wxz<|Qai<|Qaj ?_
    obtain rfl:=osi h
    exact fend ⟨[I 3],⟨rot,tv⟩,rfl⟩ nll
   ·refine wx tbk [(3,rp [(.tmp 20,(B ((decide (x3.Mass>1000000)))))] (B false))] ⟨asb hb4 (amv rfl),tv⟩ ?_
    refine bfe h (fun hc5 h=>?_) fun hc5 h=>?_
    ·refine wft hc5<|wxz<|Qai<|Qaj ?_
     obtain rfl:=osi h
     exact fend ⟨[I 3],⟨rot,tv⟩,rfl⟩ nll
    ·refine wfn hc5<|Qam<|thn<|wxz<|Qai ?_
     obtain rfl:=osi h
     exact fend ⟨[I 0],⟨rot,tv⟩,rfl⟩ nll
  ·skip
   obtain⟨x7,hf6,h⟩:=bno h
   refine hpre (A:=(Zbr p1 p0 x7)) ⟨alq 4 Qad p1 underlying28,apv Qz9 (Qjz N p0 1 _ hf6) (nlc (NLt.agg _ (nlc (nld Qan _) (nlc (nld Qab _) nl0))) (nlc nll nl0)) nll,tv⟩ fun q1_=>?_
   refine bfe h (fun hb8 h=>?_) fun hb8 h=>?_
   ·refine wx tbk (hcat (Zbr p1 p0 x7) [(5,rp [(.tmp 10,(B (((p1.length:Int) != x7))))] (B true))]) (hap q1_ ⟨asb hb8 (amv rfl),tv⟩)<|wtr<|wxz<|Qai<|Qaj ?_
    obtain rfl:=osi h
    exact fend ⟨[I 1],⟨rot,tv⟩,rfl⟩ nll
   ·obtain⟨x10,hf9,h⟩:=bno h
    refine wx tbk (hcat (Zbr p1 p0 x7) [(5,rp [(.tmp 10,(B (((p1.length:Int) != x7))))] (B false)),(7,rp [(.tmp 11,B false),fu 98,(.tmp 12,(Q54 p1))] (B x10))]) (hap q1_ ⟨asb hb8 (amv rfl),ag_ (apv Znm (Qs0 N p1 _ hf9) (nlc (nld Qal _) nl0) nll),tv⟩) ?_
    refine bfe h (fun hc11 h=>?_) fun hc11 h=>?_
    ·refine wft hc11<|wxz<|Qai<|Qaj ?_
     obtain rfl:=osi h
     exact fend ⟨[I 1],⟨rot,tv⟩,rfl⟩ nll
    ·exact wfn hc11<|Qam<|thn<|⟨(),h,(mto (n:=26) [(1,(Q54 p1))] [] [] hq (pc (rnd Qal) pn) qn)⟩
def Qgm (N:Nat) (x26:Qaf) (k40:(List Qaa)×(List (List Qaa))×(List Qa1)×(List Int)→Option (Qe5×Int×Int)):Nat→(List Qaa)→Int→(List (List Qaa))→(List Qa1)→(List Int)→Option (Qe5×Int×Int)
  |0,_,_,_,_,_=>none
  |n129+1,y119,y120,y121,y122,y123=>
    bif (decide (y120<(x26.From.length:Int))) then
     chk (decide ((([]:List Qaa).length+y119.length)*32≤140737488355328))<|
     (getI x26.From y120).bind fun x132=>
     (getI y121 x132.Element).bind fun x136=>
     (getI x136 x132.Outlet).bind fun x140=>
     chk (decide (1≤([x140]).length))<|
     chk (decide (((([]:List Qaa)++y119).length+(([x140]).take 1).length)*32≤140737488355328))<|
     Qgm N x26 k40 n129 ((([]:List Qaa)++y119)++(([x140]).take 1)) (w64 (y120+1)) y121 y122 y123
    else
     k40 (y119,y121,y122,y123)
def Qgn (N:Nat) (p0:GNet) (p1:List Int) (p2:List Qaa) (k5:Int×(List (List Qaa))×(List Qa1)×(List Int)→Option (Qe5×Int×Int)):Nat→Int→Int→Int→(List (List Qaa))→(List Qa1)→(List Int)→Option (Qe5×Int×Int)
  |0,_,_,_,_,_,_=>none
  |n18+1,y6,y7,y8,y9,y10,y11=>
    bif (decide (y8<(p0.Elements.length:Int))) then
     Qbc (fun ⟨y20,y21,y22,y23,y24⟩=>
       Qgn N p0 p1 p2 k5 n18 y20 y21 (w64 (y8+1)) y22 y23 y24) fun k25:Int×Int×(List (List Qaa))×(List Qa1)×(List Int)→Option (Qe5×Int×Int)=>
     (getI p0.Elements y8).bind fun x26=>
     Qbc (fun ⟨y30,y31,y32,y33,y34⟩=>
       Qbc (fun ⟨y36,y37,y38,y39⟩=>
         (Qiq N y36).bind fun x42=>
         (getI p1 y8).bind fun x43=>
         (Qk8 N x26 x43).bind fun x48=>
         bif (decide (x42.Mass>x48)) then
          some ((⟨[],[],[]⟩:Qe5),0,y8)
         else
          Qbc (fun ⟨y50,y51,y52,y53,y54⟩=>
            Qbc (fun ⟨y56,y57,y58,y59,y60,y61,y62,y63,y64⟩=>
              Qbc (fun ⟨y66,y67,y68,y69,y70,y71,y72,y73⟩=>
                chk (decide ((y67.length+([y66]).length)*24≤140737488355328))<|
                chk (decide (1≤([(⟨y70,y71,y72,y73⟩:Qa1)]).length))<|
                chk (decide ((y68.length+(([(⟨y70,y71,y72,y73⟩:Qa1)]).take 1).length)*32≤140737488355328))<|
                chk (decide ((y69.length+([w64 (x43+y73)]).length)*8≤140737488355328))<|
                k25 (y56,y30,y67++([y66]),y68++(([(⟨y70,y71,y72,y73⟩:Qa1)]).take 1),y69++([w64 (x43+y73)]))) fun k74:(List Qaa)×(List (List Qaa))×(List Qa1)×(List Int)×Int×Int×Int×Int→Option (Qe5×Int×Int)=>
              bif (x26.Kind==5) then
               (Qid N x42 x26.Weights).bind fun x81=>
               k74 (x81.1,y58,y59,y60,x81.2.Heat,x81.2.Silica,x81.2.Gas,0)
              else
               k74 (y57,y58,y59,y60,y61,y62,y63,y64)) fun k65:Int×(List Qaa)×(List (List Qaa))×(List Qa1)×(List Int)×Int×Int×Int×Int→Option (Qe5×Int×Int)=>
            bif (x26.Kind==4) then
             (getI p0.Table x26.Level).bind fun x83=>
             (Qji N x83 x42).bind fun x88=>
             Qbc (fun ⟨y89,y90,y91,y92,y93,y94,y95⟩=>
               (some (w64 (y6+x88.Steam.Mass))).bind fun x97=>
               k65 (x97,y89,y90,y91,y92,y93,y94,y95,x88.Scale)) fun k96:(List Qaa)×(List (List Qaa))×(List Qa1)×(List Int)×Int×Int×Int→Option (Qe5×Int×Int)=>
             bif (decide (x26.Amount>0)) then
              (Qid N (⟨x88.Water.Mass,x88.Water.Heat,x88.Water.Silica,x88.Water.Gas⟩:Qaa) ([w64 (1000-x26.Amount),x26.Amount])).bind fun x101=>
              (getI x101.1 1).bind fun x102=>
              (Qiq N ([(⟨x88.Steam.Mass,x88.Steam.Heat,x88.Steam.Silica,x88.Steam.Gas⟩:Qaa),x102])).bind fun x107=>
              (getI x101.1 0).bind fun x108=>
              k96 ([x107,x108],y50,y51,y52,x101.2.Heat,x101.2.Silica,x101.2.Gas)
             else
              k96 ([(⟨x88.Steam.Mass,x88.Steam.Heat,x88.Steam.Silica,x88.Steam.Gas⟩:Qaa),(⟨x88.Water.Mass,x88.Water.Heat,x88.Water.Silica,x88.Water.Gas⟩:Qaa)],y50,y51,y52,y54,0,0)
            else
             chk (decide (1≤y53.length))<|
             k65 (y6,y53.take 1,y50,y51,y52,y54,0,0,0)) fun k55:(List (List Qaa))×(List Qa1)×(List Int)×(List Qaa)×Int→Option (Qe5×Int×Int)=>
          bif (x26.Kind==3) then
           (some (w64 (x42.Heat-(if x42.Heat<x26.Amount then x42.Heat else x26.Amount)))).bind fun x114=>
           chk (decide (0≤0)&&decide ((0:Int).toNat<1))<|
           (([x42])[(0:Int).toNat]?).bind fun x117=>
           k55 (y37,y38,y39,([x42]).set ((0:Int).toNat) (⟨x117.Mass,x114,x117.Silica,x117.Gas⟩:Qaa),(if x42.Heat<x26.Amount then x42.Heat else x26.Amount))
          else
           k55 (y37,y38,y39,[x42],0)) fun k40:(List Qaa)×(List (List Qaa))×(List Qa1)×(List Int)→Option (Qe5×Int×Int)=>
       Qgm N x26 k40 N y31 0 y32 y33 y34) fun k35:Int×(List Qaa)×(List (List Qaa))×(List Qa1)×(List Int)→Option (Qe5×Int×Int)=>
     bif (x26.Kind==1) then
      chk (decide (0≤y7)&&decide (y7≤w64 (y7+1))&&decide (w64 (y7+1)≤(p2.length:Int)))<|
      k35 (w64 (y7+1),(p2.drop y7.toNat).take ((w64 (y7+1)).toNat-y7.toNat),y9,y10,y11)
     else
      k35 (y7,[],y9,y10,y11)
    else
     k5 (y6,y9,y10,y11)
def Qmb (N:Nat) (p0:GNet) (p1:List Int) (p2:List Qaa):Option (Qe5×Int×Int):=
  Qbc (fun ⟨y1,y2,y3,y4⟩=>
    some ((⟨y2,y3,y4⟩:Qe5),y1,(-1))) fun k5:Int×(List (List Qaa))×(List Qa1)×(List Int)→Option (Qe5×Int×Int)=>
  Qgn N p0 p1 p2 k5 N 0 0 0 ([]) ([]) ([])
def Qgv:Slot:=.own 3 [[nilS,nilS,nilS]]
def Qy3:AV:=.acc 3 28 1 (([]:List (List Qaa)).map Qag)
def Q52:AV:=.acc 4 90 4 (([]:List Qa1).map Qat)
def Qek (p2:List Qaa):AV:=.dat 4 (p2.map Qad)
def Zqq (p0:GNet):AV:=.dat 7 (p0.Elements.map Qae)
def Qhh (p0:GNet):Slot:=.own 2 [[(.dat 5 (p0.Table.map Qap)),(Zqq p0)]]
def Qrk (y9:List (List Qaa)) (y10:List Qa1) (y11:List Int):Slot:=.own 3 [[(.acc 3 28 1 (y9.map Qag)),(.acc 4 90 4 (y10.map Qat)),(.acc 5 3 1 (y11.map Qac))]]
def Zbq (x26:Qaf):AV:=.dat 2 (x26.From.map Qaw)
def Qel (x26:Qaf):Slot:=.own 7 [[(K .u8 x26.Kind),(Zbq x26),(I x26.Level),(I x26.Amount),(I x26.Wide),(I x26.Narrow),(.dat 1 (x26.Weights.map Qac))]]
def Zbn (x42:Qaa):AV:=.agg [(I x42.Mass),(I x42.Heat),(I x42.Silica),(I x42.Gas)]
def Qrj (x42:Qaa):Slot:=.own 4 (([x42]:List Qaa).map Qad)
def Qoy (y50:List (List Qaa)) (y51:List Qa1) (y52:List Int):Slot:=.own 3 [[(.acc 7 28 1 (y50.map Qag)),(.acc 8 90 4 (y51.map Qat)),(.acc 9 3 1 (y52.map Qac))]]
def Qiy (x42:Qaa):Slot:=.own 4 [[(I x42.Mass),(I x42.Heat),(I x42.Silica),(I x42.Gas)]]
def Qri (y54:Int):Slot:=.own 4 [[(I y54),(I (0)),(I (0)),(I (0))]]
def Q06 (y67:List (List Qaa)) (y66:List Qaa):AV:=.acc 7 28 1 ((y67++([y66]):List (List Qaa)).map Qag)
def Q05 (y68:List Qa1) (y70 y71:Int) (y72 y73:Int):AV:=.acc 9 90 4 ((y68++(([(⟨y70,y71,y72,y73⟩:Qa1)]).take 1):List Qa1).map Qat)
def Qrh (x88:Qe3):AV:=.agg [(I x88.Steam.Mass),(I x88.Steam.Heat),(I x88.Steam.Silica),(I x88.Steam.Gas)]
def Q04 (x88:Qe3):AV:=.agg [(I x88.Water.Mass),(I x88.Water.Heat),(I x88.Water.Silica),(I x88.Water.Gas)]
def Q03 (x88:Qe3):AV:=.dat 4 (([(⟨x88.Steam.Mass,x88.Steam.Heat,x88.Steam.Silica,x88.Steam.Gas⟩:Qaa),(⟨x88.Water.Mass,x88.Water.Heat,x88.Water.Silica,x88.Water.Gas⟩:Qaa)]:List Qaa).map Qad)
def Qvd (x88:Qe3):Slot:=.own 10 [[(I x88.Steam.Mass),(I x88.Steam.Heat),(I x88.Steam.Silica),(I x88.Steam.Gas),(I x88.Water.Mass),(I x88.Water.Heat),(I x88.Water.Silica),(I x88.Water.Gas),(I x88.Rest),(I x88.Scale)]]
def Zbp (x26:Qaf):AV:=.dat 1 (([w64 (1000-x26.Amount),x26.Amount]:List Int).map Qac)
def Q51 (x102:Qaa):AV:=.agg [(I x102.Mass),(I x102.Heat),(I x102.Silica),(I x102.Gas)]
def Zbo (x88:Qe3) (x102:Qaa):AV:=.dat 4 (([(⟨x88.Steam.Mass,x88.Steam.Heat,x88.Steam.Silica,x88.Steam.Gas⟩:Qaa),x102]:List Qaa).map Qad)
def Q02 (x107:Qaa):AV:=.agg [(I x107.Mass),(I x107.Heat),(I x107.Silica),(I x107.Gas)]
def Q01 (x108:Qaa):AV:=.agg [(I x108.Mass),(I x108.Heat),(I x108.Silica),(I x108.Gas)]
def Q00 (x42 x117:Qaa) (x114:Int):Slot:=.own 4 ((([x42]).set ((0:Int).toNat) (⟨x117.Mass,x114,x117.Silica,x117.Gas⟩:Qaa):List Qaa).map Qad)
def Q53:AV:=.acc 7 89 4 ((([]:List Qaa):List Qaa).map Qad)
def Qvc (y119:List Qaa):AV:=.acc 8 89 4 ((([]:List Qaa)++y119:List Qaa).map Qad)
def Q0z (x140:Qaa):AV:=.agg [(I x140.Mass),(I x140.Heat),(I x140.Silica),(I x140.Gas)]
def Q07 (p2:List Qaa) (y7:Int):AV:=.dat 4 (((p2.drop y7.toNat).take ((w64 (y7+1)).toNat-y7.toNat):List Qaa).map Qad)
theorem Qtv (N:Nat) (p0:GNet) (p1:List Int) (p2:List Qaa) (r:(Qe5×Int×Int)) (h:Qmb N p0 p1 p2=some r):Spec prog 22 [(.agg (Qgw p0)),(.dat 1 (p1.map Qac)),(.dat 4 (p2.map Qad))] [] (.tup [(.agg (Q0g r.1)),(I r.2.1),(I r.2.2)]) []:=by
  refine sA func22 0 fun _ _ _ hq hd0=>?_
  unfold Qmb at h
  refine wxz<|wxz<|wxz ?_
  obtain⟨k5,hk_k5,h⟩:=jko h
  refine wjn (τ:=Int×(List (List Qaa))×(List Qa1)×(List Int)) (fun t=>k5 t=some r) (fun ⟨y1,y2,y3,y4⟩=>⟨mk 209 [(6,.ref 0 3 0 0),(9,.ref 1 3 0 0),(10,I y1)],[Qgv,(.own 3 [[(.acc 2 28 1 (y2.map Qag)),(.acc 3 90 4 (y3.map Qat)),(.acc 4 3 1 (y4.map Qac))]]),.tok,.tok,.tok]⟩) (fun t h=>?_) ?_
  ·subst hk_k5
   obtain⟨y1,y2,y3,y4⟩:=t
   refine wxz<|Qai ?_
   obtain rfl:=osi h
   exact fie [(.agg [(.dat 1 (y2.map Qag)),(.dat 4 (y3.map Qat)),(.dat 1 (y4.map Qac))]),I y1,(I ((-1)))] ⟨Qbz (v:=(.agg [(.acc 2 28 1 (y2.map Qag)),(.acc 3 90 4 (y3.map Qat)),(.acc 4 3 1 (y4.map Qac))])) (Qbv (n:=0) (m:=3) (j:=0) (i:=0) (xs:=[[(.acc 2 28 1 (y2.map Qag)),(.acc 3 90 4 (y3.map Qat)),(.acc 4 3 1 (y4.map Qac))]]) (by kernel_rfl) (by kernel_rfl) ti52 (by decide) rfl (nle rfl) rfl) (Less.agg ⟨Less.acc,Less.acc,Less.acc,tv⟩),rot,rot,tv⟩
  ·skip
   refine wxz<|Qao ?_
   refine wmr (Mor.trans (Qn4 (n:=3) (ty:=28) (m:=1) (q:=2) (mq:=3) (c:=[nilS,nilS,nilS]) 0 (by kernel_rfl) (by kernel_rfl) (by kernel_rfl) (by decide)) (Mor.trans (Qn4 (n:=4) (ty:=90) (m:=4) (q:=2) (mq:=3) (c:=[Qy3,nilS,nilS]) 1 (by kernel_rfl) (by kernel_rfl) (by kernel_rfl) (by decide)) (Mor.trans (Qn4 (n:=5) (ty:=3) (m:=1) (q:=2) (mq:=3) (c:=[Qy3,Q52,nilS]) 2 (by kernel_rfl) (by kernel_rfl) (by kernel_rfl) (by decide)) (mto (n:=209) (l':=[(1,(.dat 1 (p1.map Qac))),(2,(Qek p2)),(3,.ref 0 2 0 0),(6,.ref 1 3 0 0),(9,.ref 2 3 0 0),(10,I 0),(11,I 0),(12,I 0)]) (own':=[(Qhh p0),Qgv,(.own 3 [[(.acc 3 28 1 ((([]):List (List Qaa)).map Qag)),(.acc 4 90 4 ((([]):List Qa1).map Qat)),(.acc 5 3 1 ((([]):List Int).map Qac))]]),.tok,.tok,.tok]) [(1,(.dat 1 (p1.map Qac))),(2,(Qek p2)),(3,.ref 0 2 0 0),(6,.ref 1 3 0 0),(9,.ref 2 3 0 0),(10,I 0),(11,I 0),(12,I 0)] [0,1,2,3,4,5] [(Qhh p0),Qgv,(.own 3 [[Qy3,Q52,(.acc 5 3 1 (([]:List Int).map Qac))]]),.tok,.tok,.tok] hq (pc (rnd Qah) (pc (rnd Qal) (prr (prr (prr (pw (pw (pw pn)))))))) (qb (lc (rnd Qan) (lc (rnd Qab) ln)) (qb (lcc (lc rwl ln)) (qb (lc (.rn (Qa3 rfl (Qay Qak _))) (lc (.rn (Qa3 rfl (Qay Qa2 _))) (lc (.rn (Qa3 rfl (Qay Qah _))) ln))) (qc .tok (qc .tok (qc .tok qn)))))))))) ?_
   refine Qbl (τ:=Int×Int×Int×(List (List Qaa))×(List Qa1)×(List Int)) (fun n t=>Qgn N p0 p1 p2 k5 n t.1 t.2.1 t.2.2.1 t.2.2.2.1 t.2.2.2.2.1 t.2.2.2.2.2=some r) (fun ⟨y6,y7,y8,y9,y10,y11⟩=>⟨mk 209 [(1,(.dat 1 (p1.map Qac))),(2,(Qek p2)),(3,.ref 0 2 0 0),(6,.ref 1 3 0 0),(9,.ref 2 3 0 0),(10,I y6),(11,I y7),(12,I y8)],[(Qhh p0),Qgv,(Qrk y9 y10 y11),.tok,.tok,.tok]⟩) (fun t h=>by rw[Qgn] at h;cases h) (fun n18 ih t h=>?_) N (0,0,0,[],[],[]) h
   obtain⟨y6,y7,y8,y9,y10,y11⟩:=t
   rw[Qgn] at h
   skip
   refine wsq<|wx tbk [(3,rp _ _)] ⟨alq 7 Qae p0.Elements underlying24,tv⟩ ?_
   refine bfe h (fun hc19 h=>?_) fun hc19 h=>?_
   ·refine wft hc19<|Qam<|thn ?_
    obtain⟨k25,hk_k25,h⟩:=jko h
    refine wjn (τ:=Int×Int×(List (List Qaa))×(List Qa1)×(List Int)) (fun t=>k25 t=some r) (fun ⟨y20,y21,y22,y23,y24⟩=>⟨mk 209 [(1,(.dat 1 (p1.map Qac))),(2,(Qek p2)),(3,.ref 0 2 0 0),(6,.ref 1 3 0 0),(9,.ref 2 3 0 0),(10,I y20),(11,I y21),(12,I y8)],[(Qhh p0),Qgv,(.own 3 [[(.acc 3 28 1 (y22.map Qag)),(.acc 4 90 4 (y23.map Qat)),(.acc 5 3 1 (y24.map Qac))]]),.tok,.tok,.tok]⟩) (fun t h=>?_) ?_
    ·subst hk_k25
     obtain⟨y20,y21,y22,y23,y24⟩:=t
     exact wxz1<|thn<|arm (mto (n:=209) [(1,(.dat 1 (p1.map Qac))),(2,(Qek p2)),(3,.ref 0 2 0 0),(6,.ref 1 3 0 0),(9,.ref 2 3 0 0),(10,I y20),(11,I y21),(12,(I (w64 (y8+1))))] [0,1,2,3,4,5] [(Qhh p0),Qgv,(.own 3 [[(.acc 3 28 1 (y22.map Qag)),(.acc 4 90 4 (y23.map Qat)),(.acc 5 3 1 (y24.map Qac))]]),.tok,.tok,.tok] hq (pc (rnd Qah) (pc (rnd Qal) (prr (prr (prr (pw (pw (pw pn)))))))) (qb (lc (rnd Qan) (lc (rnd Qab) ln)) (qb (lcc (lc rwl ln)) (qb (lc (.rn (Qa3 rfl (Qay Qak _))) (lc (.rn (Qa3 rfl (Qay Qa2 _))) (lc (.rn (Qa3 rfl (Qay Qah _))) ln))) (qc .tok (qc .tok (qc .tok qn))))))) (ih (y20,y21,w64 (y8+1),y22,y23,y24) h)
    ·skip
     refine Qao ?_
     obtain⟨x26,hg27,h⟩:=bno h
     obtain⟨hi28,hj29⟩:=gsm hg27
     refine wx tbk [(3,rp _ _)] ⟨aiq underlying24 ti59 Qae hi28 hj29,tv⟩<|wxz ?_
     obtain⟨k35,hk_k35,h⟩:=jko h
     refine wjn (τ:=Int×(List Qaa)×(List (List Qaa))×(List Qa1)×(List Int)) (fun t=>k35 t=some r) (fun ⟨y30,y31,y32,y33,y34⟩=>⟨mk 209 [(1,(.dat 1 (p1.map Qac))),(2,(Qek p2)),(3,.ref 0 2 0 0),(6,.ref 1 3 0 0),(9,.ref 2 3 0 0),(10,I y6),(11,I y30),(12,I y8),(13,.ref 3 7 0 0),(14,(.dat 4 (y31.map Qad)))],[(Qhh p0),Qgv,(.own 3 [[(.acc 4 28 1 (y32.map Qag)),(.acc 5 90 4 (y33.map Qat)),(.acc 6 3 1 (y34.map Qac))]]),(Qel x26),.tok,.tok,.tok]⟩) (fun t h=>?_) ?_
     ·subst hk_k35
      obtain⟨y30,y31,y32,y33,y34⟩:=t
      obtain⟨k40,hk_k40,h⟩:=jko h
      refine wjn (τ:=(List Qaa)×(List (List Qaa))×(List Qa1)×(List Int)) (fun t=>k40 t=some r) (fun ⟨y36,y37,y38,y39⟩=>⟨mk 209 [(1,(.dat 1 (p1.map Qac))),(2,(Qek p2)),(3,.ref 0 2 0 0),(6,.ref 1 3 0 0),(9,.ref 2 3 0 0),(10,I y6),(11,I y30),(12,I y8),(13,.ref 3 7 0 0),(14,(.dat 4 (y36.map Qad)))],[(Qhh p0),Qgv,(.own 3 [[(.acc 4 28 1 (y37.map Qag)),(.acc 5 90 4 (y38.map Qat)),(.acc 6 3 1 (y39.map Qac))]]),(Qel x26),.tok,.tok,.tok]⟩) (fun t h=>?_) ?_
      ·subst hk_k40
       obtain⟨y36,y37,y38,y39⟩:=t
       obtain⟨x42,hf41,h⟩:=bno h
       refine wx tbk [(1,rp _ _)] ⟨apw Q4l (Qnz N y36 _ hf41),tv⟩<|wsq ?_
       obtain⟨x43,hg44,h⟩:=bno h
       obtain⟨hi45,hj46⟩:=gsm hg44
       obtain⟨x48,hf47,h⟩:=bno h
       refine wxd tbk [(5,rp _ _),(7,rp _ _)] ⟨aiq underlying27 ti3 Qac hi45 hj46,apw Zn3 (Qvq N x26 x43 _ hf47),tv⟩ ?_
       refine bfe h (fun hc49 h=>?_) fun hc49 h=>?_
       ·refine wft hc49<|wx tbk [(0,rp _ _)] ⟨Qaz (vs:=[]) rfl ts52 tz52 rfl (by rfl) rfl,tv⟩<|Qai<|Qaj<|Qar<|Qaj<|Qaj<|Qar<|Qaj ?_
        obtain rfl:=osi h
        exact fie [(.agg [(.dat 1 (([]:List (List Qaa)).map Qag)),(.dat 4 (([]:List Qa1).map Qat)),(.dat 1 (([]:List Int).map Qac))]),I 0,I y8] ⟨Qbz (v:=(.agg [nilS,nilS,nilS])) (Qbv (n:=1) (m:=3) (j:=0) (i:=0) (xs:=[[nilS,nilS,nilS]]) (by kernel_rfl) (by kernel_rfl) ti52 (by decide) rfl (nle rfl) rfl) (Less.agg ⟨Less.nil,Less.nil,Less.nil,tv⟩),rot,rot,tv⟩
       ·refine wfn hc49<|Qam<|thn ?_
        refine wx tbk [(1,⟨[(.tmp 89,(Zbn x42))],[(8,.unused)],(.own 8 4 (0) (1)),[(8,(Qrj x42))],false⟩)] ⟨Qod (vs:=[(Zbn x42)]) rfl underlying28 ti89 tz89 rfl (by decide) rfl (by decide) (by rfl) (by rfl) (by rfl) rfl,tv⟩<|wxz ?_
        obtain⟨k55,hk_k55,h⟩:=jko h
        refine wjn (τ:=(List (List Qaa))×(List Qa1)×(List Int)×(List Qaa)×Int) (fun t=>k55 t=some r) (fun ⟨y50,y51,y52,y53,y54⟩=>⟨mk 209 [(1,(.dat 1 (p1.map Qac))),(2,(Qek p2)),(3,.ref 0 2 0 0),(6,.ref 1 3 0 0),(9,.ref 2 3 0 0),(10,I y6),(11,I y30),(12,I y8),(13,.ref 3 7 0 0),(16,.ref 4 4 0 0),(17,(.own 5 4 (0) (1))),(18,.ref 6 4 0 0)],[(Qhh p0),Qgv,(Qoy y50 y51 y52),(Qel x26),(Qiy x42),(.own 4 (y53.map Qad)),(Qri y54),.tok,.tok,.tok]⟩) (fun t h=>?_) ?_
        ·subst hk_k55
         obtain⟨y50,y51,y52,y53,y54⟩:=t
         obtain⟨k65,hk_k65,h⟩:=jko h
         refine wjn (τ:=Int×(List Qaa)×(List (List Qaa))×(List Qa1)×(List Int)×Int×Int×Int×Int) (fun t=>k65 t=some r) (fun ⟨y56,y57,y58,y59,y60,y61,y62,y63,y64⟩=>⟨mk 209 [(1,(.dat 1 (p1.map Qac))),(2,(Qek p2)),(3,.ref 0 2 0 0),(6,.ref 1 3 0 0),(9,.ref 2 3 0 0),(10,I y56),(11,I y30),(12,I y8),(13,.ref 3 7 0 0),(16,.ref 4 4 0 0),(17,(.dat 4 (y57.map Qad))),(18,.ref 5 4 0 0)],[(Qhh p0),Qgv,(.own 3 [[(.acc 6 28 1 (y58.map Qag)),(.acc 7 90 4 (y59.map Qat)),(.acc 8 3 1 (y60.map Qac))]]),(Qel x26),(Qiy x42),(.own 4 [[I y61,I y62,I y63,I y64]]),.tok,.tok,.tok]⟩) (fun t h=>?_) ?_
         ·subst hk_k65
          obtain⟨y56,y57,y58,y59,y60,y61,y62,y63,y64⟩:=t
          obtain⟨k74,hk_k74,h⟩:=jko h
          refine wjn (τ:=(List Qaa)×(List (List Qaa))×(List Qa1)×(List Int)×Int×Int×Int×Int) (fun t=>k74 t=some r) (fun ⟨y66,y67,y68,y69,y70,y71,y72,y73⟩=>⟨mk 209 [(1,(.dat 1 (p1.map Qac))),(2,(Qek p2)),(3,.ref 0 2 0 0),(6,.ref 1 3 0 0),(9,.ref 2 3 0 0),(10,I y56),(11,I y30),(12,I y8),(17,(.dat 4 (y66.map Qad))),(18,.ref 3 4 0 0)],[(Qhh p0),Qgv,(.own 3 [[(.acc 4 28 1 (y67.map Qag)),(.acc 5 90 4 (y68.map Qat)),(.acc 6 3 1 (y69.map Qac))]]),(.own 4 [[I y70,I y71,I y72,I y73]]),.tok,.tok,.tok]⟩) (fun t h=>?_) ?_
          ·subst hk_k74
           obtain⟨y66,y67,y68,y69,y70,y71,y72,y73⟩:=t
           obtain⟨ha75,h⟩:=cko h
           obtain⟨hz76,h⟩:=cko h
           obtain⟨ha77,h⟩:=cko h
           obtain⟨ha78,h⟩:=cko h
           refine wy1 tbk [(3,rp [(.tmp 185,(.dat 4 (y66.map Qad)))] (.dat 1 (([y66]:List (List Qaa)).map Qag))),(4,⟨[(.tmp 184,(.acc 4 28 1 (y67.map Qag))),(.tmp 186,(.dat 1 (([y66]:List (List Qaa)).map Qag)))],[(4,.tok),(7,.unused)],(Q06 y67 y66),[(4,.dead),(7,.tok)],false⟩),(8,⟨[(.tmp 190,(.agg [I y70,I y71,I y72,I y73]))],[(8,.unused)],(.own 8 4 (0) (1)),[(8,(.own 4 (([(⟨y70,y71,y72,y73⟩:Qa1)]:List Qa1).map Qat)))],false⟩),(9,⟨[(.tmp 189,(.acc 5 90 4 (y68.map Qat))),(.tmp 191,(.own 8 4 (0) (1)))],[(8,(.own 4 (([(⟨y70,y71,y72,y73⟩:Qa1)]:List Qa1).map Qat))),(5,.tok),(9,.unused)],(Q05 y68 y70 y71 y72 y73),[(5,.dead),(9,.tok)],false⟩),(14,rp _ _),(19,rp [(.tmp 201,(I (w64 (x43+y73))))] (.dat 1 (([w64 (x43+y73)]:List Int).map Qac))),(20,⟨[(.tmp 194,(.acc 6 3 1 (y69.map Qac))),(.tmp 202,(.dat 1 (([w64 (x43+y73)]:List Int).map Qac)))],[(6,.tok),(10,.unused)],(.acc 10 3 1 ((y69++([w64 (x43+y73)]):List Int).map Qac)),[(6,.dead),(10,.tok)],false⟩)] ⟨Qbm (vs:=[(.dat 4 (y66.map Qad))]) rfl underlying49 ti28 tz28 rfl (by decide) rfl (by decide) (by rfl) (by rfl) (by rfl) rfl,Qc7 rfl underlying49 te28 (Base.acc _ _) rfl rfl (by rfl) (Qf7 Qag ha75) (Qf6 Qag ha75 (by decide)) (Qf5 Qag) rfl rfl,Qod (vs:=[(.agg [I y70,I y71,I y72,I y73])]) rfl underlying50 ti90 tz90 rfl (by decide) rfl (by decide) (by rfl) (by rfl) (by rfl) rfl,Qh2 (rd':=[(.tmp 189,(.acc 5 90 4 (y68.map Qat))),(.tmp 191,(.dat 4 ((([(⟨y70,y71,y72,y73⟩:Qa1)]).take 1:List Qa1).map Qat)))]) [(8,4,([(⟨y70,y71,y72,y73⟩:Qa1)]:List Qa1).map Qat)] ⟨rfl,.same _,rfl,(Qth 0 rfl hz76),tv⟩ (by rfl) (.acc _ _ _ _ (nin rfl) (by simp) (Quq Zdp _)) (Qpq .dead (Qpq .tok Qqq)) (Qc7 rfl underlying50 te90 (Base.acc _ _) rfl rfl (Qh1 Qat Zc6 _) (Qf7 Qat ha77) (Qf6 Qat ha77 (by decide)) (Qf5 Qat) rfl rfl),aiq underlying27 ti3 Qac hi45 hj46,Qbm (vs:=[(I (w64 (x43+y73)))]) rfl underlying27 ti3 tz3 rfl (by decide) rfl (by decide) (by rfl) (by rfl) (by rfl) rfl,Qc7 rfl underlying27 te3 (Base.acc _ _) rfl rfl (by rfl) (Qf7 Qac ha78) (Qf6 Qac ha78 (by decide)) (Qf5 Qac) rfl rfl,tv⟩<|bln<|thn ?_
           exact⟨(y56,y30,y67++([y66]),y68++(([(⟨y70,y71,y72,y73⟩:Qa1)]).take 1),y69++([w64 (x43+y73)])),h,(mto (n:=209) [(1,(.dat 1 (p1.map Qac))),(2,(Qek p2)),(3,.ref 0 2 0 0),(6,.ref 1 3 0 0),(9,.ref 2 3 0 0),(10,I y56),(11,I y30),(12,I y8)] [0,1,2,7,9,10] [(Qhh p0),Qgv,(.own 3 [[(Q06 y67 y66),(Q05 y68 y70 y71 y72 y73),(.acc 10 3 1 ((y69++([w64 (x43+y73)]):List Int).map Qac))]]),.tok,.tok,.tok] hq (pc (rnd Qah) (pc (rnd Qal) (prr (prr (prr (pw (pw (pw pn)))))))) (qb (lc (rnd Qan) (lc (rnd Qab) ln)) (qb (lcc (lc rwl ln)) (qb (lc (.rn (Qa3 rfl (Qay Qak _))) (lc (.rn (Qa3 rfl (Qay Qa2 _))) (lc (.rn (Qa3 rfl (Qay Qah _))) ln))) (qc .tok (qc .tok (qc .tok qn)))))))⟩
          ·skip
           refine wxz ?_
           refine bfe h (fun hc79 h=>?_) fun hc79 h=>?_
           ·refine wft hc79 ?_
            obtain⟨x81,hf80,h⟩:=bno h
            refine wx tbk [(3,rp _ _)] ⟨apw Zeg (Qo8 N x42 x26.Weights _ hf80),tv⟩ ?_
            exact wy1 tbk [(7,rp _ _)] ⟨Qaz (vs:=[I x81.2.Heat,I x81.2.Silica,I x81.2.Gas,I 0]) rfl ts90 tz90 rfl (by rfl) rfl,tv⟩<|thn<|⟨(x81.1,y58,y59,y60,x81.2.Heat,x81.2.Silica,x81.2.Gas,0),h,(mto (n:=209) [(1,(.dat 1 (p1.map Qac))),(2,(Qek p2)),(3,.ref 0 2 0 0),(6,.ref 1 3 0 0),(9,.ref 2 3 0 0),(10,I y56),(11,I y30),(12,I y8),(17,(.dat 4 (x81.1.map Qad))),(18,.ref 5 4 0 0)] [0,1,2,5,6,7,8] [(Qhh p0),Qgv,(.own 3 [[(.acc 6 28 1 (y58.map Qag)),(.acc 7 90 4 (y59.map Qat)),(.acc 8 3 1 (y60.map Qac))]]),(.own 4 [[I x81.2.Heat,I x81.2.Silica,I x81.2.Gas,I 0]]),.tok,.tok,.tok] hq (pc (rnd Qah) (pc (rnd Qal) (prr (prr (prr (pw (pw (pw (pc (rnd Qal) (prr pn)))))))))) (qb (lc (rnd Qan) (lc (rnd Qab) ln)) (qb (lcc (lc rwl ln)) (qb (lc (.rn (Qa3 rfl (Qay Qak _))) (lc (.rn (Qa3 rfl (Qay Qa2 _))) (lc (.rn (Qa3 rfl (Qay Qah _))) ln))) (qb (lcc (lcc ln)) (qc .tok (qc .tok (qc .tok qn))))))))⟩
           ·exact wfn hc79<|Qam<|thn<|⟨(y57,y58,y59,y60,y61,y62,y63,y64),h,(mto (n:=209) [(1,(.dat 1 (p1.map Qac))),(2,(Qek p2)),(3,.ref 0 2 0 0),(6,.ref 1 3 0 0),(9,.ref 2 3 0 0),(10,I y56),(11,I y30),(12,I y8),(17,(.dat 4 (y57.map Qad))),(18,.ref 5 4 0 0)] [0,1,2,5,6,7,8] [(Qhh p0),Qgv,(.own 3 [[(.acc 6 28 1 (y58.map Qag)),(.acc 7 90 4 (y59.map Qat)),(.acc 8 3 1 (y60.map Qac))]]),(.own 4 [[I y61,I y62,I y63,I y64]]),.tok,.tok,.tok] hq (pc (rnd Qah) (pc (rnd Qal) (prr (prr (prr (pw (pw (pw (pc (rnd Qal) (prr pn)))))))))) (qb (lc (rnd Qan) (lc (rnd Qab) ln)) (qb (lcc (lc rwl ln)) (qb (lc (.rn (Qa3 rfl (Qay Qak _))) (lc (.rn (Qa3 rfl (Qay Qa2 _))) (lc (.rn (Qa3 rfl (Qay Qah _))) ln))) (qb (lcc (lcc ln)) (qc .tok (qc .tok (qc .tok qn))))))))⟩
         ·skip
          refine wxz ?_
          refine bfe h (fun hc82 h=>?_) fun hc82 h=>?_
          ·refine wft hc82 ?_
           obtain⟨x83,hg84,h⟩:=bno h
           obtain⟨hi85,hj86⟩:=gsm hg84
           obtain⟨x88,hf87,h⟩:=bno h
           refine wxd tbk [(4,rp _ _),(7,rp _ _)] ⟨aiq underlying23 Quf Qap hi85 hj86,apw Zn2 (Qvt N x83 x42 _ hf87),tv⟩ ?_
           refine wx tbk [(4,rp [(.tmp 120,(Qrh x88)),(.tmp 122,(Q04 x88))] (Q03 x88))] ⟨Qbm (vs:=[(Qrh x88),(Q04 x88)]) rfl underlying28 ti89 tz89 rfl (by decide) rfl (by decide) (by rfl) (by rfl) (by rfl) rfl,tv⟩ ?_
           obtain⟨k96,hk_k96,h⟩:=jko h
           refine wjn (τ:=(List Qaa)×(List (List Qaa))×(List Qa1)×(List Int)×Int×Int×Int) (fun t=>k96 t=some r) (fun ⟨y89,y90,y91,y92,y93,y94,y95⟩=>⟨mk 209 [(1,(.dat 1 (p1.map Qac))),(2,(Qek p2)),(3,.ref 0 2 0 0),(6,.ref 1 3 0 0),(9,.ref 2 3 0 0),(10,I y6),(11,I y30),(12,I y8),(13,.ref 3 7 0 0),(16,.ref 4 4 0 0),(17,(.dat 4 (y89.map Qad))),(18,.ref 5 4 0 0),(19,.ref 6 10 0 0)],[(Qhh p0),Qgv,(.own 3 [[(.acc 7 28 1 (y90.map Qag)),(.acc 8 90 4 (y91.map Qat)),(.acc 9 3 1 (y92.map Qac))]]),(Qel x26),(Qiy x42),(.own 4 [[I y93,I y94,I y95,I 0]]),(Qvd x88),.tok,.tok,.tok]⟩) (fun t h=>?_) ?_
           ·subst hk_k96
            obtain⟨y89,y90,y91,y92,y93,y94,y95⟩:=t
            refine wxz ?_
            obtain⟨x97,hl98,h⟩:=bno h
            exact wx1 tbk [(5,rp [(.tmp 164,(I (w64 (y6+x88.Steam.Mass))))] (I x97))] ⟨Qhg hl98 (aas rfl),tv⟩<|thn<|⟨(x97,y89,y90,y91,y92,y93,y94,y95,x88.Scale),h,(mto (n:=209) [(1,(.dat 1 (p1.map Qac))),(2,(Qek p2)),(3,.ref 0 2 0 0),(6,.ref 1 3 0 0),(9,.ref 2 3 0 0),(10,I x97),(11,I y30),(12,I y8),(13,.ref 3 7 0 0),(16,.ref 4 4 0 0),(17,(.dat 4 (y89.map Qad))),(18,.ref 5 4 0 0)] [0,1,2,3,4,5,7,8,9] [(Qhh p0),Qgv,(.own 3 [[(.acc 7 28 1 (y90.map Qag)),(.acc 8 90 4 (y91.map Qat)),(.acc 9 3 1 (y92.map Qac))]]),(Qel x26),(Qiy x42),(.own 4 [[I y93,I y94,I y95,I x88.Scale]]),.tok,.tok,.tok] hq (pc (rnd Qah) (pc (rnd Qal) (prr (prr (prr (pw (pw (pw (prr (prr (pc (rnd Qal) (prr pn)))))))))))) (qb (lc (rnd Qan) (lc (rnd Qab) ln)) (qb (lcc (lc rwl ln)) (qb (lc (.rn (Qa3 rfl (Qay Qak _))) (lc (.rn (Qa3 rfl (Qay Qa2 _))) (lc (.rn (Qa3 rfl (Qay Qah _))) ln))) (qb (lc rwl (lc (rnd Qbf) (lcc (lcc (lc (rnd Qah) ln))))) (qb (lcc (lcc ln)) (qb (lcc (lcc ln)) (qc .tok (qc .tok (qc .tok qn))))))))))⟩
           ·skip
            refine wxz ?_
            refine bfe h (fun hc99 h=>?_) fun hc99 h=>?_
            ·refine wft hc99 ?_
             obtain⟨x101,hf100,h⟩:=bno h
             refine wx tbk [(7,rp [(.tmp 132,(I (w64 (1000-x26.Amount)))),(.tmp 134,I x26.Amount)] (Zbp x26)),(8,rp _ _)] ⟨Qbm (vs:=[(I (w64 (1000-x26.Amount))),I x26.Amount]) rfl underlying27 ti3 tz3 rfl (by decide) rfl (by decide) (by rfl) (by rfl) (by rfl) rfl,apw Zeg (Qo8 N (⟨x88.Water.Mass,x88.Water.Heat,x88.Water.Silica,x88.Water.Gas⟩:Qaa) ([w64 (1000-x26.Amount),x26.Amount]) _ hf100),tv⟩ ?_
             obtain⟨x102,hg103,h⟩:=bno h
             obtain⟨hi104,hj105⟩:=gsm hg103
             obtain⟨x107,hf106,h⟩:=bno h
             obtain⟨x108,hg109,h⟩:=bno h
             obtain⟨hi110,hj111⟩:=gsm hg109
             refine wxd tbk [(3,rp _ _),(5,rp [(.tmp 140,(Qrh x88)),(.tmp 143,(Q51 x102))] (Zbo x88 x102)),(6,rp _ _),(8,rp _ _),(10,rp [(.tmp 145,(Q02 x107)),(.tmp 148,(Q01 x108))] (.dat 4 (([x107,x108]:List Qaa).map Qad)))] ⟨aiq underlying28 ti89 Qad hi104 hj105,Qbm (vs:=[(Qrh x88),(Q51 x102)]) rfl underlying28 ti89 tz89 rfl (by decide) rfl (by decide) (by rfl) (by rfl) (by rfl) rfl,apw Q4l (Qnz N ([(⟨x88.Steam.Mass,x88.Steam.Heat,x88.Steam.Silica,x88.Steam.Gas⟩:Qaa),x102]) _ hf106),aiq underlying28 ti89 Qad hi110 hj111,Qbm (vs:=[(Q02 x107),(Q01 x108)]) rfl underlying28 ti89 tz89 rfl (by decide) rfl (by decide) (by rfl) (by rfl) (by rfl) rfl,tv⟩ ?_
             exact wx1 tbk [(6,rp _ _)] ⟨Qaz (vs:=[I x101.2.Heat,I x101.2.Silica,I x101.2.Gas,I 0]) rfl ts90 tz90 rfl (by rfl) rfl,tv⟩<|thn<|⟨([x107,x108],y50,y51,y52,x101.2.Heat,x101.2.Silica,x101.2.Gas),h,(mto (n:=209) [(1,(.dat 1 (p1.map Qac))),(2,(Qek p2)),(3,.ref 0 2 0 0),(6,.ref 1 3 0 0),(9,.ref 2 3 0 0),(10,I y6),(11,I y30),(12,I y8),(13,.ref 3 7 0 0),(16,.ref 4 4 0 0),(17,(.dat 4 (([x107,x108]:List Qaa).map Qad))),(18,.ref 6 4 0 0),(19,.ref 10 10 0 0)] [0,1,2,3,4,6,10,7,8,9] [(Qhh p0),Qgv,(Qoy y50 y51 y52),(Qel x26),(Qiy x42),(.own 4 [[I x101.2.Heat,I x101.2.Silica,I x101.2.Gas,I 0]]),(Qvd x88),.tok,.tok,.tok] hq (pc (rnd Qah) (pc (rnd Qal) (prr (prr (prr (pw (pw (pw (prr (prr (pc (rnd Qal) (prr (prr pn))))))))))))) (qb (lc (rnd Qan) (lc (rnd Qab) ln)) (qb (lcc (lc rwl ln)) (qb (lc (.rn (Qa3 rfl (Qay Qak _))) (lc (.rn (Qa3 rfl (Qay Qa2 _))) (lc (.rn (Qa3 rfl (Qay Qah _))) ln))) (qb (lc rwl (lc (rnd Qbf) (lcc (lcc (lc (rnd Qah) ln))))) (qb (lcc (lcc ln)) (qb (lcc (lcc ln)) (qb (lcc (lcc (lcc (lcc (lcc ln))))) (qc .tok (qc .tok (qc .tok qn)))))))))))⟩
            ·exact wfn hc99<|Qam<|thn<|⟨([(⟨x88.Steam.Mass,x88.Steam.Heat,x88.Steam.Silica,x88.Steam.Gas⟩:Qaa),(⟨x88.Water.Mass,x88.Water.Heat,x88.Water.Silica,x88.Water.Gas⟩:Qaa)],y50,y51,y52,y54,0,0),h,(mto (n:=209) [(1,(.dat 1 (p1.map Qac))),(2,(Qek p2)),(3,.ref 0 2 0 0),(6,.ref 1 3 0 0),(9,.ref 2 3 0 0),(10,I y6),(11,I y30),(12,I y8),(13,.ref 3 7 0 0),(16,.ref 4 4 0 0),(17,(Q03 x88)),(18,.ref 6 4 0 0),(19,.ref 10 10 0 0)] [0,1,2,3,4,6,10,7,8,9] [(Qhh p0),Qgv,(Qoy y50 y51 y52),(Qel x26),(Qiy x42),(Qri y54),(Qvd x88),.tok,.tok,.tok] hq (pc (rnd Qah) (pc (rnd Qal) (prr (prr (prr (pw (pw (pw (prr (prr (pc (rnd Qal) (prr (prr pn))))))))))))) (qb (lc (rnd Qan) (lc (rnd Qab) ln)) (qb (lcc (lc rwl ln)) (qb (lc (.rn (Qa3 rfl (Qay Qak _))) (lc (.rn (Qa3 rfl (Qay Qa2 _))) (lc (.rn (Qa3 rfl (Qay Qah _))) ln))) (qb (lc rwl (lc (rnd Qbf) (lcc (lcc (lc (rnd Qah) ln))))) (qb (lcc (lcc ln)) (qb (lcc (lcc ln)) (qb (lcc (lcc (lcc (lcc (lcc ln))))) (qc .tok (qc .tok (qc .tok qn)))))))))))⟩
          ·refine wfn hc82<|Qam<|thn ?_
           obtain⟨hz112,h⟩:=cko h
           exact⟨(y6,y53.take 1,y50,y51,y52,y54,0,0,0),h,(Mor.trans (Q6v (n:=209) (m:=4) (xs:=y53.map Qad) (l':=[(1,(.dat 1 (p1.map Qac))),(2,(Qek p2)),(3,.ref 0 2 0 0),(6,.ref 1 3 0 0),(9,.ref 2 3 0 0),(10,I y6),(11,I y30),(12,I y8),(13,.ref 3 7 0 0),(16,.ref 4 4 0 0),(17,(.dat 4 ((y53.take 1:List Qaa).map Qad))),(18,.ref 6 4 0 0)]) (own':=[(Qhh p0),Qgv,(Qoy y50 y51 y52),(Qel x26),(Qiy x42),.dead,(Qri y54),.tok,.tok,.tok]) 5 [(1,(.dat 1 (p1.map Qac))),(2,(Qek p2)),(3,.ref 0 2 0 0),(6,.ref 1 3 0 0),(9,.ref 2 3 0 0),(10,I y6),(11,I y30),(12,I y8),(13,.ref 3 7 0 0),(16,.ref 4 4 0 0),(17,(.own 5 4 (0) (1))),(18,.ref 6 4 0 0)] (by kernel_rfl) (by kernel_rfl) (by kernel_rfl) ⟨rfl,.same _,rfl,.same _,rfl,.same _,rfl,.same _,rfl,.same _,rfl,.same _,rfl,.same _,rfl,.same _,rfl,.same _,rfl,.same _,rfl,(Qlr hz112),rfl,.same _,tv⟩ (by kernel_rfl)) (mto (n:=209) [(1,(.dat 1 (p1.map Qac))),(2,(Qek p2)),(3,.ref 0 2 0 0),(6,.ref 1 3 0 0),(9,.ref 2 3 0 0),(10,I y6),(11,I y30),(12,I y8),(13,.ref 3 7 0 0),(16,.ref 4 4 0 0),(17,(.dat 4 ((y53.take 1:List Qaa).map Qad))),(18,.ref 6 4 0 0)] [0,1,2,3,4,6,7,8,9] [(Qhh p0),Qgv,(Qoy y50 y51 y52),(Qel x26),(Qiy x42),(Qri y54),.tok,.tok,.tok] hq (pc (rnd Qah) (pc (rnd Qal) (prr (prr (prr (pw (pw (pw (prr (prr (pc (rnd Qal) (prr pn)))))))))))) (qb (lc (rnd Qan) (lc (rnd Qab) ln)) (qb (lcc (lc rwl ln)) (qb (lc (.rn (Qa3 rfl (Qay Qak _))) (lc (.rn (Qa3 rfl (Qay Qa2 _))) (lc (.rn (Qa3 rfl (Qay Qah _))) ln))) (qb (lc rwl (lc (rnd Qbf) (lcc (lcc (lc (rnd Qah) ln))))) (qb (lcc (lcc ln)) (qb (lcc (lcc ln)) (qc .tok (qc .tok (qc .tok qn)))))))))))⟩
        ·skip
         refine wxz ?_
         refine bfe h (fun hc113 h=>?_) fun hc113 h=>?_
         ·refine wft hc113<|wx tbk [(4,rp [(.tmp 95,I x26.Amount),(.tmp 97,I x42.Heat)] (I ((if x42.Heat<x26.Amount then x42.Heat else x26.Amount))))] ⟨Qpj rfl,tv⟩ ?_
          obtain⟨x114,hl115,h⟩:=bno h
          obtain⟨hi116,h⟩:=cko h
          obtain⟨hi116a,hi116b⟩:=Qcv hi116
          obtain⟨x117,hg118,h⟩:=bno h
          refine wx1 tbk [(5,rp [(.tmp 102,I x42.Heat),(.tmp 104,(I ((if x42.Heat<x26.Amount then x42.Heat else x26.Amount))))] (I x114)),(6,rb [(.tmp 100,(.own 8 4 (0) (1))),ci 0] [(8,(Qrj x42))] (.ref 8 4 ((0:Int).toNat) 0)),(8,⟨[(.tmp 107,(.ref 8 4 ((0:Int).toNat) 1)),(.tmp 105,I x114)],[(8,(Qrj x42))],.any,[(8,(Q00 x42 x117 x114))],false⟩)] ⟨Qhg hl115 (abn rfl rfl),aio rfl underlying28 ti89 (odt hi116a) (odt hi116b) (Nat.zero_add _),ast rfl ti3 (by rfl) (mgt Qad hg118) (nle rfl) (Qff Qad rfl),tv⟩<|thn ?_
          exact⟨(y37,y38,y39,([x42]).set ((0:Int).toNat) (⟨x117.Mass,x114,x117.Silica,x117.Gas⟩:Qaa),(if x42.Heat<x26.Amount then x42.Heat else x26.Amount)),h,(mto (n:=209) [(1,(.dat 1 (p1.map Qac))),(2,(Qek p2)),(3,.ref 0 2 0 0),(6,.ref 1 3 0 0),(9,.ref 2 3 0 0),(10,I y6),(11,I y30),(12,I y8),(13,.ref 3 7 0 0),(16,.ref 7 4 0 0),(17,(.own 8 4 (0) (1))),(18,.ref 9 4 0 0)] [0,1,2,3,7,8,9,4,5,6] [(Qhh p0),Qgv,(.own 3 [[(.acc 4 28 1 (y37.map Qag)),(.acc 5 90 4 (y38.map Qat)),(.acc 6 3 1 (y39.map Qac))]]),(Qel x26),(Qiy x42),(Q00 x42 x117 x114),(.own 4 [[(I ((if x42.Heat<x26.Amount then x42.Heat else x26.Amount))),I 0,I 0,I 0]]),.tok,.tok,.tok] hq (pc (rnd Qah) (pc (rnd Qal) (prr (prr (prr (pw (pw (pw (prr (prr (pc (.rn (Qav rfl)) (prr pn)))))))))))) (qb (lc (rnd Qan) (lc (rnd Qab) ln)) (qb (lcc (lc rwl ln)) (qb (lc (.rn (Qa3 rfl (Qay Qak _))) (lc (.rn (Qa3 rfl (Qay Qa2 _))) (lc (.rn (Qa3 rfl (Qay Qah _))) ln))) (qb (lc rwl (lc (rnd Qbf) (lcc (lcc (lc (rnd Qah) ln))))) (qb (lcc (lcc ln)) (qc (spr Qal) (qb (lcc (lcc ln)) (qc .tok (qc .tok (qc .tok qn)))))))))))⟩
         ·exact wfn hc113<|Qam<|thn<|⟨(y37,y38,y39,[x42],0),h,(mto (n:=209) [(1,(.dat 1 (p1.map Qac))),(2,(Qek p2)),(3,.ref 0 2 0 0),(6,.ref 1 3 0 0),(9,.ref 2 3 0 0),(10,I y6),(11,I y30),(12,I y8),(13,.ref 3 7 0 0),(16,.ref 7 4 0 0),(17,(.own 8 4 (0) (1))),(18,.ref 9 4 0 0)] [0,1,2,3,7,8,9,4,5,6] [(Qhh p0),Qgv,(.own 3 [[(.acc 4 28 1 (y37.map Qag)),(.acc 5 90 4 (y38.map Qat)),(.acc 6 3 1 (y39.map Qac))]]),(Qel x26),(Qiy x42),(Qrj x42),(.own 4 [[I 0,I 0,I 0,I 0]]),.tok,.tok,.tok] hq (pc (rnd Qah) (pc (rnd Qal) (prr (prr (prr (pw (pw (pw (prr (prr (pc (.rn (Qav rfl)) (prr pn)))))))))))) (qb (lc (rnd Qan) (lc (rnd Qab) ln)) (qb (lcc (lc rwl ln)) (qb (lc (.rn (Qa3 rfl (Qay Qak _))) (lc (.rn (Qa3 rfl (Qay Qa2 _))) (lc (.rn (Qa3 rfl (Qay Qah _))) ln))) (qb (lc rwl (lc (rnd Qbf) (lcc (lcc (lc (rnd Qah) ln))))) (qb (lcc (lcc ln)) (qc (spr Qal) (qb (lcc (lcc ln)) (qc .tok (qc .tok (qc .tok qn)))))))))))⟩
      ·skip
       refine wxz<|Qao ?_
       refine wmr (mto (n:=209) (l':=[(1,(.dat 1 (p1.map Qac))),(2,(Qek p2)),(3,.ref 0 2 0 0),(6,.ref 1 3 0 0),(9,.ref 2 3 0 0),(10,I y6),(11,I y30),(12,I y8),(13,.ref 3 7 0 0),(14,(.dat 4 (y31.map Qad))),(15,I 0)]) (own':=[(Qhh p0),Qgv,(.own 3 [[(.acc 4 28 1 (y32.map Qag)),(.acc 5 90 4 (y33.map Qat)),(.acc 6 3 1 (y34.map Qac))]]),(Qel x26),.tok,.tok,.tok]) [(1,(.dat 1 (p1.map Qac))),(2,(Qek p2)),(3,.ref 0 2 0 0),(6,.ref 1 3 0 0),(9,.ref 2 3 0 0),(10,I y6),(11,I y30),(12,I y8),(13,.ref 3 7 0 0),(14,(.dat 4 (y31.map Qad))),(15,I 0)] [0,1,2,3,4,5,6] [(Qhh p0),Qgv,(.own 3 [[(.acc 4 28 1 (y32.map Qag)),(.acc 5 90 4 (y33.map Qat)),(.acc 6 3 1 (y34.map Qac))]]),(Qel x26),.tok,.tok,.tok] hq (pc (rnd Qah) (pc (rnd Qal) (prr (prr (prr (pw (pw (pw (prr (pc (rnd Qal) (pw pn))))))))))) (qb (lc (rnd Qan) (lc (rnd Qab) ln)) (qb (lcc (lc rwl ln)) (qb (lc (.rn (Qa3 rfl (Qay Qak _))) (lc (.rn (Qa3 rfl (Qay Qa2 _))) (lc (.rn (Qa3 rfl (Qay Qah _))) ln))) (qb (lc rwl (lc (rnd Qbf) (lcc (lcc (lc (rnd Qah) ln))))) (qc .tok (qc .tok (qc .tok qn)))))))) ?_
       refine Qbl (τ:=(List Qaa)×Int×(List (List Qaa))×(List Qa1)×(List Int)) (fun n t=>Qgm N x26 k40 n t.1 t.2.1 t.2.2.1 t.2.2.2.1 t.2.2.2.2=some r) (fun ⟨y119,y120,y121,y122,y123⟩=>⟨mk 209 [(1,(.dat 1 (p1.map Qac))),(2,(Qek p2)),(3,.ref 0 2 0 0),(6,.ref 1 3 0 0),(9,.ref 2 3 0 0),(10,I y6),(11,I y30),(12,I y8),(13,.ref 3 7 0 0),(14,(.dat 4 (y119.map Qad))),(15,I y120)],[(Qhh p0),Qgv,(.own 3 [[(.acc 4 28 1 (y121.map Qag)),(.acc 5 90 4 (y122.map Qat)),(.acc 6 3 1 (y123.map Qac))]]),(Qel x26),.tok,.tok,.tok]⟩) (fun t h=>by rw[Qgm] at h;cases h) (fun n129 ih t h=>?_) N (y31,0,y32,y33,y34) h
       obtain⟨y119,y120,y121,y122,y123⟩:=t
       rw[Qgm] at h
       skip
       refine wsq<|wx tbk [(3,rp _ _)] ⟨alq 2 Qaw x26.From underlying57,tv⟩ ?_
       refine bfe h (fun hc130 h=>?_) fun hc130 h=>?_
       ·refine wft hc130<|Qam<|thn<|wsq<|Qao ?_
        obtain⟨ha131,h⟩:=cko h
        obtain⟨x132,hg133,h⟩:=bno h
        obtain⟨hi134,hj135⟩:=gsm hg133
        obtain⟨x136,hg137,h⟩:=bno h
        obtain⟨hi138,hj139⟩:=gsm hg137
        obtain⟨x140,hg141,h⟩:=bno h
        obtain⟨hi142,hj143⟩:=gsm hg141
        obtain⟨hz144,h⟩:=cko h
        obtain⟨ha145,h⟩:=cko h
        refine wy1 tbk [(0,⟨[],[(7,.unused)],Q53,[(7,.tok)],false⟩),(2,⟨[(.tmp 53,Q53),(.tmp 54,(.dat 4 (y119.map Qad)))],[(7,.tok),(8,.unused)],(Qvc y119),[(7,.dead),(8,.tok)],false⟩),(8,rp _ _),(11,rp [(.tmp 57,(.acc 4 28 1 (y121.map Qag))),(.tmp 63,I x132.Element)] (.dptr (Qag x136) 0)),(16,rp _ _),(19,rp _ _),(21,⟨[(.tmp 73,(Q0z x140))],[(9,.unused)],(.own 9 4 (0) (1)),[(9,(.own 4 (([x140]:List Qaa).map Qad)))],false⟩),(22,⟨[(.tmp 55,(Qvc y119)),(.tmp 74,(.own 9 4 (0) (1)))],[(9,(.own 4 (([x140]:List Qaa).map Qad))),(8,.tok),(10,.unused)],(.acc 10 89 4 (((([]:List Qaa)++y119)++(([x140]).take 1):List Qaa).map Qad)),[(8,.dead),(10,.tok)],false⟩)] ⟨Qd5 rfl underlying28 ti89 tz89,Qc7 rfl underlying28 te89 (Base.acc _ _) rfl rfl (Qh1 Qad Qv4 _) (Qf7 Qad ha131) (Qf6 Qad ha131 (by decide)) (Qf5 Qad) rfl rfl,aiq underlying57 ti61 Qaw hi134 hj135,aid rfl underlying49 ti28 rfl rfl hi138 (mgt Qag hj139) rfl,aiq underlying57 ti61 Qaw hi134 hj135,aiq underlying28 ti89 Qad hi142 hj143,Qod (vs:=[(Q0z x140)]) rfl underlying28 ti89 tz89 rfl (by decide) rfl (by decide) (by rfl) (by rfl) (by rfl) rfl,Qh2 (rd':=[(.tmp 55,(Qvc y119)),(.tmp 74,(.dat 4 ((([x140]).take 1:List Qaa).map Qad)))]) [(9,4,([x140]:List Qaa).map Qad)] ⟨rfl,.same _,rfl,(Qth 0 rfl hz144),tv⟩ (by rfl) (.acc _ _ _ _ (nin rfl) (by simp) (Quq Qwa _)) (Qpq .dead (Qpq .tok Qqq)) (Qc7 rfl underlying28 te89 (Base.acc _ _) rfl rfl (Qh1 Qad Qv4 _) (Qf7 Qad ha145) (Qf6 Qad ha145 (by decide)) (Qf5 Qad) rfl rfl),tv⟩<|bln<|thn<|wxz1<|thn ?_
        exact arm (mto (n:=209) [(1,(.dat 1 (p1.map Qac))),(2,(Qek p2)),(3,.ref 0 2 0 0),(6,.ref 1 3 0 0),(9,.ref 2 3 0 0),(10,I y6),(11,I y30),(12,I y8),(13,.ref 3 7 0 0),(14,(.acc 10 89 4 (((([]:List Qaa)++y119)++(([x140]).take 1):List Qaa).map Qad))),(15,(I (w64 (y120+1))))] [0,1,2,3,4,5,6] [(Qhh p0),Qgv,(.own 3 [[(.acc 4 28 1 (y121.map Qag)),(.acc 5 90 4 (y122.map Qat)),(.acc 6 3 1 (y123.map Qac))]]),(Qel x26),.tok,.tok,.tok] hq (pc (rnd Qah) (pc (rnd Qal) (prr (prr (prr (pw (pw (pw (prr (pc (.dat _ _ _ _ (Qay Qal _)) (pw pn))))))))))) (qb (lc (rnd Qan) (lc (rnd Qab) ln)) (qb (lcc (lc rwl ln)) (qb (lc (.rn (Qa3 rfl (Qay Qak _))) (lc (.rn (Qa3 rfl (Qay Qa2 _))) (lc (.rn (Qa3 rfl (Qay Qah _))) ln))) (qb (lc rwl (lc (rnd Qbf) (lcc (lcc (lc (rnd Qah) ln))))) (qc .tok (qc .tok (qc .tok qn)))))))) (ih ((([]:List Qaa)++y119)++(([x140]).take 1),w64 (y120+1),y121,y122,y123) h)
       ·exact wfn hc130<|Qa7<|Qau<|Qau<|Qa6 rfl<|thn<|⟨(y119,y121,y122,y123),h,(mto (n:=209) [(1,(.dat 1 (p1.map Qac))),(2,(Qek p2)),(3,.ref 0 2 0 0),(6,.ref 1 3 0 0),(9,.ref 2 3 0 0),(10,I y6),(11,I y30),(12,I y8),(13,.ref 3 7 0 0),(14,(.dat 4 (y119.map Qad)))] [0,1,2,3,4,5,6] [(Qhh p0),Qgv,(.own 3 [[(.acc 4 28 1 (y121.map Qag)),(.acc 5 90 4 (y122.map Qat)),(.acc 6 3 1 (y123.map Qac))]]),(Qel x26),.tok,.tok,.tok] hq (pc (rnd Qah) (pc (rnd Qal) (prr (prr (prr (pw (pw (pw (prr (pc (rnd Qal) pn)))))))))) (qb (lc (rnd Qan) (lc (rnd Qab) ln)) (qb (lcc (lc rwl ln)) (qb (lc (.rn (Qa3 rfl (Qay Qak _))) (lc (.rn (Qa3 rfl (Qay Qa2 _))) (lc (.rn (Qa3 rfl (Qay Qah _))) ln))) (qb (lc rwl (lc (rnd Qbf) (lcc (lcc (lc (rnd Qah) ln))))) (qc .tok (qc .tok (qc .tok qn))))))))⟩
     ·skip
      refine wxz ?_
      refine bfe h (fun hc146 h=>?_) fun hc146 h=>?_
      ·refine wft hc146 ?_
       obtain⟨hs147,h⟩:=cko h
       exact wx tbk [(4,rp [(.tmp 39,(Qek p2)),(.tmp 40,I y7),(.tmp 42,(I (w64 (y7+1))))] (Q07 p2 y7))] ⟨Qm1 (k:=.i64) (k':=.i64) (lo:=some (.tmp 40)) (hi:=some (.tmp 42)) (l:=y7) (hh:=w64 (y7+1)) rfl underlying28 ti89 rfl (fun e=>nomatch e) (fun e=>nomatch e) (Qw6 hs147) (Qw5 hs147) (Zjl Qad hs147) (Ztl Qad),tv⟩<|wxz1<|thn<|⟨(w64 (y7+1),(p2.drop y7.toNat).take ((w64 (y7+1)).toNat-y7.toNat),y9,y10,y11),h,(mto (n:=209) [(1,(.dat 1 (p1.map Qac))),(2,(Qek p2)),(3,.ref 0 2 0 0),(6,.ref 1 3 0 0),(9,.ref 2 3 0 0),(10,I y6),(11,(I (w64 (y7+1)))),(12,I y8),(13,.ref 6 7 0 0),(14,(Q07 p2 y7))] [0,1,2,6,3,4,5] [(Qhh p0),Qgv,(Qrk y9 y10 y11),(Qel x26),.tok,.tok,.tok] hq (pc (rnd Qah) (pc (rnd Qal) (prr (prr (prr (pw (pw (pw (prr (pc (rnd Qal) pn)))))))))) (qb (lc (rnd Qan) (lc (rnd Qab) ln)) (qb (lcc (lc rwl ln)) (qb (lc (.rn (Qa3 rfl (Qay Qak _))) (lc (.rn (Qa3 rfl (Qay Qa2 _))) (lc (.rn (Qa3 rfl (Qay Qah _))) ln))) (qb (lc rwl (lc (rnd Qbf) (lcc (lcc (lc (rnd Qah) ln))))) (qc .tok (qc .tok (qc .tok qn))))))))⟩
      ·exact wfn hc146<|Qam<|thn<|⟨(y7,[],y9,y10,y11),h,(mto (n:=209) [(1,(.dat 1 (p1.map Qac))),(2,(Qek p2)),(3,.ref 0 2 0 0),(6,.ref 1 3 0 0),(9,.ref 2 3 0 0),(10,I y6),(11,I y7),(12,I y8),(13,.ref 6 7 0 0),(14,nilS)] [0,1,2,6,3,4,5] [(Qhh p0),Qgv,(Qrk y9 y10 y11),(Qel x26),.tok,.tok,.tok] hq (pc (rnd Qah) (pc (rnd Qal) (prr (prr (prr (pw (pw (pw (prr (pc (.nil _) pn)))))))))) (qb (lc (rnd Qan) (lc (rnd Qab) ln)) (qb (lcc (lc rwl ln)) (qb (lc (.rn (Qa3 rfl (Qay Qak _))) (lc (.rn (Qa3 rfl (Qay Qa2 _))) (lc (.rn (Qa3 rfl (Qay Qah _))) ln))) (qb (lc rwl (lc (rnd Qbf) (lcc (lcc (lc (rnd Qah) ln))))) (qc .tok (qc .tok (qc .tok qn))))))))⟩
   ·exact wfn hc19<|Qa7<|Qau<|Qau<|Qa6 rfl<|thn<|⟨(y6,y9,y10,y11),h,(mto (n:=209) [(6,.ref 1 3 0 0),(9,.ref 2 3 0 0),(10,I y6)] [1,2,3,4,5] [Qgv,(Qrk y9 y10 y11),.tok,.tok,.tok] hq (prr (prr (pw pn))) (qb (lcc (lc rwl ln)) (qb (lc (.rn (Qa3 rfl (Qay Qak _))) (lc (.rn (Qa3 rfl (Qay Qa2 _))) (lc (.rn (Qa3 rfl (Qay Qah _))) ln))) (qc .tok (qc .tok (qc .tok qn))))))⟩
def Qfk (N:Nat) (p0 p1:List Int) (k2:Unit→Option Bool):Nat→Int→Option Bool
  |0,_=>none
  |n5+1,y3=>
    bif (decide (y3<(p0.length:Int))) then
     (getI p0 y3).bind fun x7=>
     (getI p1 y3).bind fun x11=>
     bif (x7 != x11) then
      some false
     else
      Qfk N p0 p1 k2 n5 (w64 (y3+1))
    else
     k2 ()
def Qkj (N:Nat) (p0 p1:List Int):Option Bool:=
  bif ((p0.length:Int) != (p1.length:Int)) then
   some false
  else
   Qbc (fun _=>
     some true) fun k2:Unit→Option Bool=>
   Qfk N p0 p1 k2 N 0
theorem Qxj (N:Nat) (p0 p1:List Int) (r:Bool) (h:Qkj N p0 p1=some r):Spec prog 49 [(.dat 1 (p0.map Qac)),(.dat 1 (p1.map Qac))] [] (B r) []:=by
  refine sA func49 0 fun _ _ _ hq hd0=>?_
  unfold Qkj at h
  refine wxz<|wsq ?_
  refine wx tbk [(1,rp _ _),(3,rp _ _)] ⟨alq 1 Qac p0 underlying27,alq 1 Qac p1 underlying27,tv⟩ ?_
  refine bfe h (fun hc1 h=>?_) fun hc1 h=>?_
  ·exact wft hc1<|wxz<|Qai<|Qaj<|frb h
  ·refine wfn hc1<|Qam<|thn ?_
   obtain⟨k2,hk_k2,h⟩:=jko h
   refine wjn (τ:=Unit) (fun t=>k2 t=some r) (fun _=>⟨mk 26 [],[]⟩) (fun t h=>?_) ?_
   ·subst hk_k2
    exact wxz<|Qai<|frb h
   ·skip
    refine wxz<|Qao ?_
    refine wmr (mto (n:=26) (l':=[(0,(.dat 1 (p0.map Qac))),(1,(.dat 1 (p1.map Qac))),(5,I 0)]) (own':=[]) [(0,(.dat 1 (p0.map Qac))),(1,(.dat 1 (p1.map Qac))),(5,I 0)] [] [] hq (pc (rnd Qah) (pc (rnd Qah) (pw pn))) qn) ?_
    refine Qbl (τ:=Int) (fun n t=>Qfk N p0 p1 k2 n t=some r) (fun y3=>⟨mk 26 [(0,(.dat 1 (p0.map Qac))),(1,(.dat 1 (p1.map Qac))),(5,I y3)],[]⟩) (fun t h=>by rw[Qfk] at h;cases h) (fun n5 ih y3 h=>?_) N (0) h
    rw[Qfk] at h
    skip
    refine wsq<|wx tbk [(2,rp _ _)] ⟨alq 1 Qac p0 underlying27,tv⟩ ?_
    refine bfe h (fun hc6 h=>?_) fun hc6 h=>?_
    ·refine wft hc6<|Qam<|thn<|wsq<|Qao ?_
     obtain⟨x7,hg8,h⟩:=bno h
     obtain⟨hi9,hj10⟩:=gsm hg8
     obtain⟨x11,hg12,h⟩:=bno h
     obtain⟨hi13,hj14⟩:=gsm hg12
     refine wxd tbk [(2,rp _ _),(6,rp _ _)] ⟨aiq underlying27 ti3 Qac hi9 hj10,aiq underlying27 ti3 Qac hi13 hj14,tv⟩ ?_
     refine bfe h (fun hc15 h=>?_) fun hc15 h=>?_
     ·exact wft hc15<|wxz<|Qai<|Qar<|Qaj<|Qaj<|Qar<|Qaj<|frb h
     ·exact wfn hc15<|Qam<|bln<|thn<|wxz1<|thn<|arm (mto (n:=26) [(0,(.dat 1 (p0.map Qac))),(1,(.dat 1 (p1.map Qac))),(5,(I (w64 (y3+1))))] [] [] hq (pc (rnd Qah) (pc (rnd Qah) (pw pn))) qn) (ih (w64 (y3+1)) h)
    ·exact wfn hc6<|Qa7<|Qau<|Qau<|Qa6 rfl<|thn<|⟨(),h,(mto (n:=26) [] [] [] hq pn qn)⟩
end
section
theorem Q35 (N:Nat) {r:GRow}{s:Qaa}(hr:RowV r) (hs:StrV s):Qji N r s=some (flG r s):=by
 have hw:=Zgj hr hs
 have hc:=Qrp hr hs
 obtain⟨l0,l1,lv,v1,s0,s1⟩:=hr
 obtain⟨m0,m1,h0,h1,q0,q1,_,_⟩:=hs
 have p1:=bdp m0 m1 s0 s1 (by omega)
 have hd:((r.Vapour-r.Liquid) != 0)=true:=by simp;omega
 unfold Qji
 simp only[hw.a,hw.b,hw.c,hw.d,Option.bind_some,Qbc,hd,chk,cond_true]
 unfold flG
 have none0:∀(x:Int),w64 (s.Silica-(if w64 (s.Silica-w64 (s.Mass*r.Silica))>0 then w64 (s.Silica-w64 (s.Mass*r.Silica)) else 0))=min (s.Mass*r.Silica) s.Silica∧(if w64 (s.Silica-w64 (s.Mass*r.Silica))>0 then w64 (s.Silica-w64 (s.Mass*r.Silica)) else 0)=s.Silica-min (s.Mass*r.Silica) s.Silica:=fun _=>by
  rw[Qbh (x:=s.Mass*r.Silica) (by omega) (by omega),Qbh (x:=s.Silica-s.Mass*r.Silica) (by omega) (by omega)]
  constructor
  ·rw[Qbh]<;>(repeat split)<;>omega
  ·split<;>omega
 have none0:=none0 0
 rcases hc with ⟨a,b⟩ |⟨a,b,c,d⟩ |⟨a,b,c,d,e,g1,g2⟩
 ·rw[b,if_pos rfl,decide_eq_false (show ¬s.Heat-s.Mass*r.Liquid>0 by omega)]
  simp only[cond_false,show decide ((0:Int)>0)=false from rfl]
  have k:(bif (0:Int)==s.Mass then(some ⟨⟨s.Mass,s.Heat,min (s.Mass*r.Silica) s.Silica,s.Gas⟩,⟨0,0,0,0⟩,0,0⟩:Option Qe3) else none)=(bif (0:Int)==s.Mass then(some ⟨⟨s.Mass,s.Heat,min (s.Mass*r.Silica) s.Silica,s.Gas⟩,⟨0,0,0,0⟩,0,0⟩:Option Qe3) else none):=rfl
  rw[none0.1,none0.2]
  have:(if 0<s.Mass then max (s.Heat-s.Mass*r.Liquid) 0 else 0)=0:=by split<;>omega
  rw[this]
  cases (0:Int)==s.Mass<;>rfl
 ·rw[decide_eq_true (show s.Heat-s.Mass*r.Liquid>0 from a),decide_eq_true (show s.Heat≥s.Mass*r.Vapour from b),c,if_neg (show ¬s.Mass=0 by omega),if_pos rfl]
  simp only[cond_true,beq_self_eq_true,decide_eq_true (show s.Mass>0 from d)]
 ·rw[decide_eq_true (show s.Heat-s.Mass*r.Liquid>0 from a),decide_eq_false (show ¬s.Heat≥s.Mass*r.Vapour by omega),←c]
  generalize hm:stm r s=m at *
  rw[Qbh (x:=m) (by omega) (by omega),show(m==s.Mass)=false by simp;omega]
  simp only[cond_true,cond_false]
  by_cases z:m=0
  ·subst z
   simp only[show decide ((0:Int)>0)=false from rfl,cond_false,if_true]
   rw[none0.1,none0.2,if_pos (show 0<s.Mass from e)]
   congr 2
   omega
  ·rw[decide_eq_true (show m>0 by omega),if_neg z,if_neg (show ¬m=s.Mass by omega)]
   have k1:=bdp d (show m≤1000000 by omega) (show 0≤r.Vapour by omega) v1 (by omega)
   have k2:=bdp (show 0≤s.Mass-m by omega) (show s.Mass-m≤1000000 by omega) s0 s1 (by omega)
   have k3:=bdp (show 0≤s.Mass-m by omega) (show s.Mass-m≤1000000 by omega) l0 l1 (by omega)
   simp only[cond_true]
   rw[Qbh (x:=s.Mass-m) (by omega) (by omega),Qbh (x:=m*r.Vapour) (by omega) (by omega),Qbh (x:=s.Heat-m*r.Vapour) (by omega) (by omega),Qbh (x:=(s.Mass-m)*r.Silica) (by omega) (by omega),Qbh (x:=(s.Mass-m)*r.Liquid) (by omega) (by omega),Qbh (x:=s.Heat-m*r.Vapour-(s.Mass-m)*r.Liquid) (by omega) (by omega),Qbh (x:=s.Silica-(s.Mass-m)*r.Silica) (by omega) (by omega)]
   have j1:w64 (s.Silica-(if s.Silica-(s.Mass-m)*r.Silica>0 then s.Silica-(s.Mass-m)*r.Silica else 0))=min ((s.Mass-m)*r.Silica) s.Silica:=by
    rw[Qbh]<;>(repeat split)<;>omega
   have j2:(if s.Silica-(s.Mass-m)*r.Silica>0 then s.Silica-(s.Mass-m)*r.Silica else 0)=s.Silica-min ((s.Mass-m)*r.Silica) s.Silica:=by split<;>omega
   rw[j1,j2]
end
section
theorem Q1a (a b:Int):w64 (w64 a-b)=w64 (a-b):=by
 unfold w64
 rw[IntKind.wrap_i64,IntKind.wrap_i64,IntKind.wrap_i64]
 omega
theorem Zca (N:Nat) (l:List Qaa) (k:Int×Int×Int×Int→Option Qaa) (hl:l.length≤1000000):∀(n i:Nat) (a b c d:Int),(l.drop i).length<n →
  Qfz N l k n i (w64 a) (w64 b) (w64 c) (w64 d)=k (w64 (a+(totS (l.drop i)).Mass),w64 (b+(totS (l.drop i)).Heat),w64 (c+(totS (l.drop i)).Silica),w64 (d+(totS (l.drop i)).Gas)):=by
 intro n
 induction n with
 |zero=>intro i _ _ _ _ h;cases h
 |succ n ih=>
  intro i a b c d h
  rw[Qfz]
  cases hd:l.drop i with
  |nil=>
   have:=Qbs hd
   simp[show ¬((i:Int)<l.length) from by omega,totS]
  |cons x q=>
   obtain⟨hg,hd',hlt⟩:=Qbg hd
   simp only[dlI hlt,cond_true,Qbu hg,Option.bind_some,Qoz]
   rw[w64S (i:=i) (by omega),ih (i+1) _ _ _ _ (dlt hd hd' h),hd']
   simp only[totS,List.map_cons,List.sum_cons,Int.add_assoc]
theorem Q3x {N:Nat}{l:List Qaa}(hl:l.length≤1000) (hN:1001≤N):Qiq N l=some (totW l):=by
 unfold Qiq
 simp only[Qbc]
 have:=Zca N l (fun x=>match x with |(y1,y2,y3,y4)=>some (⟨y1,y2,y3,y4⟩:Qaa)) (by omega) N 0 0 0 0 0 (by simp;omega)
 rw[Qy6,List.drop_zero] at this
 refine this.trans ?_
 simp[totW]
section
variable {N : Nat} {s : Qaa} {ws : List Int} (hs : StrV s) (h : WtsV ws) (hN : 1001 ≤ N)
include h in
theorem Q3q (k:Int→Option (List Qaa×Qhv)):∀(n i:Nat) (a:Int),(ws.drop i).length<n→0≤a→a≤1000*i→Qev N ws k n a i=k (a+(ws.drop i).sum):=by
 intro n
 induction n with
 |zero=>intro i _ h;cases h
 |succ n ih=>
  intro i a hn s0 s1
  rw[Qev]
  cases hd:ws.drop i with
  |nil=>
   have:=Qbs hd
   simp[show ¬((i:Int)<ws.length) from by omega]
  |cons x l=>
   obtain⟨hg,hd',hlt⟩:=Qbg hd
   have ha:=h.w x (List.mem_of_getElem? hg)
   have:=h.l2
   simp only[dlI hlt,cond_true,Qbu hg,Option.bind_some,List.sum_cons]
   rw[Qbh (x:=(i:Int)+1) (by omega) (by omega),Qbh (x:=a+x) (by omega) (by omega),show(i:Int)+1=((i+1:Nat):Int) by omega,ih (i+1) (a+x) (by rw[hd'];rw[hd] at hn;simp at hn;omega) (by omega) (by omega),hd',Int.add_assoc]
include hs h in
theorem Q89 (k:Int×List Int→Option (List Qaa×Qhv)):∀(n i:Nat) (r:Int) (o:List Int),(ws.drop i).length<n→i≤ws.length→o.length=ws.length-i→-1000000*(i:Int)≤r→r≤1000000 →
  Qew N s ws ws.sum k n r i (((ws.take i).map fun w=>s.Mass*w/ws.sum)++o)=k (r-((ws.drop i).map fun w=>s.Mass*w/ws.sum).sum,Qov s.Mass ws):=by
 intro n
 induction n with
 |zero=>intro i _ _ h;cases h
 |succ n ih=>
  intro i r o hn hi ho r0 r1
  rw[Qew]
  cases hd:ws.drop i with
  |nil=>
   have:=Qbs hd
   have e:o=[]:=List.length_eq_zero_iff.1 (by omega)
   simp[show ¬((i:Int)<ws.length) from by omega,e,List.take_of_length_le this,Qov]
  |cons a l=>
   obtain⟨hg,hd',hlt⟩:=Qbg hd
   have ha:=h.w a (List.mem_of_getElem? hg)
   have hl2:=h.l2
   have h0:=hs.m0
   have h1:=hs.m1
   obtain⟨p0,p1⟩:=h.sum
   obtain⟨x,o',rfl⟩:∃x o',o=x::o':=by
    cases o with
    |nil=>simp at ho;omega
    |cons x o'=>exact⟨x,o',rfl⟩
   have hb:=Qsh h h0 (s.Mass*a/ws.sum) (List.mem_map.2 ⟨a,List.mem_of_getElem? hg,rfl⟩)
   have hp:=bdp h0 h1 ha.1 ha.2 (by omega)
   have hlt':((ws.take i).map fun w=>s.Mass*w/ws.sum).length=i:=by simp;omega
   have e2:∀y,(((ws.take i).map fun w=>s.Mass*w/ws.sum)++y::o')[i]? = some y:=fun y=>by rw[List.getElem?_append_right (by omega),hlt'];simp
   have e3:(((ws.take i).map fun w=>s.Mass*w/ws.sum)++x::o').set i (s.Mass*a/ws.sum)=((ws.take i).map fun w=>s.Mass*w/ws.sum)++(s.Mass*a/ws.sum)::o':=by
    rw[List.set_append_right _ _ (by omega),hlt',Nat.sub_self,List.set_cons_zero]
   have e5:((ws.take i).map fun w=>s.Mass*w/ws.sum)++(s.Mass*a/ws.sum)::o'=((ws.take (i+1)).map fun w=>s.Mass*w/ws.sum)++o':=by
    rw[List.take_add_one,hg];simp
   have e4:((i:Int):Int).toNat=i:=by omega
   have c1:(decide ((0:Int)≤(i:Int))&&decide (i<(ws.length:Int).toNat))=true:=by simp;omega
   have ev:w64 ((w64 (s.Mass*a)).tdiv ws.sum)=s.Mass*a/ws.sum:=by
    rw[Qbh (x:=s.Mass*a) (by omega) (by omega),Int.tdiv_eq_ediv_of_nonneg hp.1,Qbh (by omega) (by omega)]
   simp only[dlI hlt,cond_true,Qbu hg,Option.bind_some,chk,show(ws.sum != 0)=true from by rw[bne_iff_ne];omega,e4,c1,e2,ev,e3]
   rw[Qbh (x:=(i:Int)+1) (by omega) (by omega),Qbh (x:=r-s.Mass*a/ws.sum) (by omega) (by omega),show(i:Int)+1=((i+1:Nat):Int) by omega,e5,ih (i+1) _ o' (by rw[hd'];rw[hd] at hn;simp at hn;omega) (by omega) (by simp at ho;omega) (by omega) (by omega),hd',List.map_cons,List.sum_cons]
   congr 2
   omega
theorem Zjc (key:Int→Int) (ls:List Int) (mk:List Bool) (d:Nat):-1≤Qms key ls mk d∧Qms key ls mk d<d:=by
 rcases Qtk key ls mk d with ⟨_,e⟩ |⟨b,hb,e,_⟩<;>rw[e]<;>omega
include hs h in
theorem Zez (mk:List Bool) (hm:mk.length=ws.length) (k:Int→Option (List Qaa×Qhv)):∀(n i:Nat),ws.length-i<n→i≤ws.length →
  Qc1 N s ws ws.sum mk k n (Qms (rkey s.Mass ws.sum) ws mk i) i=k (Qms (rkey s.Mass ws.sum) ws mk ws.length):=by
 intro n
 induction n with
 |zero=>intro i h;cases h
 |succ n ih=>
  intro i hn hi
  have hl2:=h.l2
  have h0:=hs.m0
  have h1:=hs.m1
  obtain⟨p0,p1⟩:=h.sum
  rw[Qc1]
  by_cases hlt:i<ws.length
  ·have hgm:mk[i]? = some (mk.getD i false):=by rw[List.getD_eq_getElem?_getD,List.getElem?_eq_getElem (by omega)];rfl
   have hgw:∀j:Nat,j<ws.length→ws[j]? = some (ws.getD j 0):=fun j hj=>by rw[List.getD_eq_getElem?_getD,List.getElem?_eq_getElem hj];rfl
   have c1:(decide ((0:Int)≤(i:Int))&&decide (i<ws.length))=true:=by simp;omega
   have hih:=ih (i+1) (by omega) hlt
   have hrk:∀x∈ws,(w64 (s.Mass*x)).tmod ws.sum=rkey s.Mass ws.sum x:=fun x hx=>by
    have hx':=h.w x hx
    have hp:=bdp h0 h1 hx'.1 hx'.2 (by omega)
    rw[Qbh (by omega) (by omega),Int.tmod_eq_emod_of_nonneg hp.1]
    rfl
   simp only[show decide ((i:Int)<(ws.length:Int))=true from by simpa using hlt,cond_true,chk,Int.toNat_natCast,c1,hgm,Option.bind_some]
   rw[w64S (i:=i) (by omega)]
   rw[Qms] at hih
   cases hmk:mk.getD i false with
   |true=>
    rw[if_neg (by rw[hmk];simp)] at hih
    simp only[Bool.not_true,cond_false]
    exact hih
   |false=>
    simp only[Bool.not_false,cond_true]
    by_cases hb:Qms (rkey s.Mass ws.sum) ws mk i<0
    ·rw[if_pos ⟨hmk,.inl hb⟩] at hih
     rw[decide_eq_true hb,cond_true]
     exact hih
    ·have hbb:=Zjc (rkey s.Mass ws.sum) ws mk i
     rw[decide_eq_false hb,cond_false]
     have g1:=hgw i hlt
     have g2:=hgw (Qms (rkey s.Mass ws.sum) ws mk i).toNat (by omega)
     have g2':getI ws (Qms (rkey s.Mass ws.sum) ws mk i)=some (ws.getD (Qms (rkey s.Mass ws.sum) ws mk i).toNat 0):=by
      unfold getI;rw[if_pos (by omega),g2]
     simp only[Qbu g1,g2',Option.bind_some,show(ws.sum != 0)=true from by rw[bne_iff_ne];omega,cond_true,hrk _ (List.mem_of_getElem? g1),hrk _ (List.mem_of_getElem? g2)]
     by_cases hc:rkey s.Mass ws.sum (ws.getD i 0)>rkey s.Mass ws.sum (ws.getD (Qms (rkey s.Mass ws.sum) ws mk i).toNat 0)
     ·rw[if_pos ⟨hmk,.inr (by omega)⟩] at hih
      rw[decide_eq_true hc,cond_true]
      exact hih
     ·rw[if_neg (fun hh=>hh.2.elim hb (fun h3=>hc (by omega)))] at hih
      rw[decide_eq_false hc,cond_false]
      exact hih
  ·have e:i=ws.length:=by omega
   subst e
   rw[show decide ((ws.length:Int)<(ws.length:Int))=false by simp,cond_false]
include hs h hN in
theorem Q8q {L:List Int}(hp:L.Perm (ixs ws.length)) (hL:L.Pairwise (Qlg (rkey s.Mass ws.sum) ws)) (k:List Int→Option (List Qaa×Qhv)):∀(n j q:Nat) (o:List Int),j<n→q+j≤L.length→o.length=ws.length→(∀x∈o,0≤x∧x≤1000000+q) →
  Qex N s ws ws.sum k n j o ((L.take q).foldl mark (List.replicate ws.length false))=k (((L.drop q).take j).foldl bump o):=by
 intro n
 induction n with
 |zero=>intro j q o h;cases h
 |succ n ih=>
  intro j q o hn hq ho hob
  have hlen:=hp.length_eq
  rw[Qiw] at hlen
  have hl2:=h.l2
  rw[Qex]
  cases j with
  |zero=>simp
  |succ j=>
   have hr:∀x∈L,0≤x∧x<ws.length:=fun x hx=>Qqz.1 (hp.mem_iff.1 hx)
   have hml:((L.take q).foldl mark (List.replicate ws.length false)).length=ws.length:=by rw[Q17];simp
   have hb:Qms (rkey s.Mass ws.sum) ws ((L.take q).foldl mark (List.replicate ws.length false)) ws.length=L[q]'(by omega):=Qya hL (fun i hi=>hp.mem_iff.2 (Qqz.2 ⟨by omega,by omega⟩)) hr (fun i hi=>Qx1 hr i hi) (by omega)
   have hbl:=Zez (N:=N) hs h _ hml
   simp only[Qbc,show decide (((j+1:Nat):Int)>0)=true from decide_eq_true (by omega),cond_true]
   have:=fun k=>hbl k N 0 (by omega) (Nat.zero_le _)
   rw[show Qms (rkey s.Mass ws.sum) ws ((L.take q).foldl mark (List.replicate ws.length false)) 0=-1 from rfl] at this
   refine(this _).trans ?_
   rw[hb]
   obtain⟨x0,x1⟩:=hr (L[q]'(by omega)) (List.getElem_mem _)
   generalize hz:L[q]'(by omega)=z at x0 x1
   have c1:(decide (0≤z)&&decide (z.toNat<(ws.length:Int).toNat))=true:=by simp;omega
   have g1:∃b,((L.take q).foldl mark (List.replicate ws.length false))[z.toNat]? = some b:=⟨_,List.getElem?_eq_getElem (by omega)⟩
   obtain⟨b,g1⟩:=g1
   have g2:o[z.toNat]? = some (o.getD z.toNat 0):=by rw[List.getD_eq_getElem?_getD,List.getElem?_eq_getElem (by omega)];rfl
   have hxb:=hob _ (List.mem_of_getElem? g2)
   simp only[chk,c1,cond_true,g1,g2,Option.bind_some]
   rw[Qbh (x:=((j+1:Nat):Int)-1) (by omega) (by omega),Qbh (x:=o.getD z.toNat 0+1) (by omega) (by omega),show(((j+1:Nat):Int)-1)=(j:Int) by omega]
   have ht:mark ((L.take q).foldl mark (List.replicate ws.length false)) z=(L.take (q+1)).foldl mark (List.replicate ws.length false):=by
    rw[List.take_add_one,List.getElem?_eq_getElem (by omega),hz,List.foldl_append]
    rfl
   have hih:=ih j (q+1) (bump o z) (by omega) (by omega) (by rw[Qkn];exact ho) (fun y hy=>by
    rcases List.mem_or_eq_of_mem_set hy with hy |rfl
    ·have:=hob y hy;omega
    ·omega)
   rw[←ht] at hih
   refine hih.trans ?_
   rw[List.drop_eq_getElem_cons (show q<L.length by omega),hz,List.take_succ_cons,List.foldl_cons]
include hs in
theorem Qzp {n m:Int}(hn:0≤n) (hn':n≤10000000000) (h0:0≤m) (h1:m≤s.Mass):Qja N n m s.Mass=some (n*m/mx s):=by
 have hM:=hs.m1
 have hM0:=hs.m0
 have hp:=bdp hn hn' h0 (show m≤1000000 by omega) (by omega)
 have hb:=Qv0 hM0 h0 h1 hn
 unfold Qja
 by_cases hz:s.Mass=0
 ·have hm:m=0:=by omega
  rw[hz,hm,Int.mul_zero,Int.zero_ediv];rfl
 ·have hx:mx s=s.Mass:=by unfold mx;split<;>omega
  rw[hx] at hb ⊢
  rw[show(s.Mass==0)=false by simpa using hz,cond_false,Qbh (x:=n*m) (by omega) (by omega),Int.tdiv_eq_ediv_of_nonneg hp.1,Qbh (by omega) (by omega)]
  rw[show(s.Mass != 0)=true by simpa using hz]
  rfl
include hs h in
theorem Q39 (k:List Qaa×Int×Int×Int→Option (List Qaa×Qhv)) (l:List Int) (hl:l.length=ws.length) (hb:∀m∈l,0≤m∧m≤s.Mass):∀(n i:Nat) (acc:List Qaa) (a b c:Int),(l.drop i).length<n→acc.length=i →
  Qey N s ws l k n acc i (w64 a) (w64 b) (w64 c)=k (acc++(l.drop i).map (Qs8 s),w64 (a-(totS ((l.drop i).map (Qs8 s))).Heat),w64 (b-(totS ((l.drop i).map (Qs8 s))).Silica),w64 (c-(totS ((l.drop i).map (Qs8 s))).Gas)):=by
 intro n
 induction n with
 |zero=>intro i _ _ _ _ h;cases h
 |succ n ih=>
  intro i acc a b c hn ha
  have hl2:=h.l2
  rw[Qey]
  cases hd:l.drop i with
  |nil=>
   have:=Qbs hd
   simp[show ¬((i:Int)<ws.length) from by omega,totS]
  |cons m q=>
   obtain⟨hg,hd',hlt⟩:=Qbg hd
   obtain⟨m0,m1⟩:=hb m (List.mem_of_getElem? hg)
   have a1:=hs.m1
   have c1:(decide ((0:Int)≤(i:Int))&&decide (i<ws.length))=true:=by simp;omega
   simp only[show decide ((i:Int)<ws.length)=true from by simp;omega,cond_true,chk,Int.toNat_natCast,c1,hg,Option.bind_some,Qzp (N:=N) hs hs.h0 (by have:=hs.h1;omega) m0 m1,Qzp (N:=N) hs hs.s0 (by have:=hs.s1;omega) m0 m1,Qzp (N:=N) hs hs.g0 (by have:=hs.g1;omega) m0 m1,Q1a]
   have hc:decide ((acc.length+[(⟨m,s.Heat*m/mx s,s.Silica*m/mx s,s.Gas*m/mx s⟩:Qaa)].length)*32≤140737488355328)=true:=by simp;omega
   rw[hc,cond_true,w64S (i:=i) (by omega),
    ih (i+1) _ _ _ _ (by rw[hd'];rw[hd] at hn;simp at hn;omega) (by simp[ha]),hd',List.append_assoc,List.map_cons,Qne]
   simp only[Qs8,Int.sub_sub]
   rfl
include hs h hN in
theorem Q1j:Qid N s ws=some (Qhi s ws,Qj5 s ws):=by
 have hl1:=h.l1
 have hl2:=h.l2
 have h0:=hs.m0
 have h1:=hs.m1
 obtain⟨L,hp,hL⟩:=Qvu h h0 h1
 have hlen:=hp.length_eq
 rw[Qiw] at hlen
 have hb:=Qzx h h0
 unfold Qid
 simp only[Qbc]
 refine(Q3q h _ N 0 0 (by simp;omega) (by omega) (by omega)).trans ?_
 rw[List.drop_zero,Int.zero_add]
 simp only[chk]
 rw[show(decide ((0:Int)≤(ws.length:Int))&&decide (8*(ws.length:Int)≤281474976710656)&&decide ((ws.length:Int)≤9223372036854775807))=true from by simp;omega,cond_true,show(decide ((0:Int)≤(ws.length:Int))&&decide (1*(ws.length:Int)≤281474976710656)&&decide ((ws.length:Int)≤9223372036854775807))=true from by simp;omega]
 simp only[cond_true]
 have eo:=fun k=>Q89 (N:=N) hs h k N 0 s.Mass (List.replicate (ws.length:Int).toNat 0) (by simp;omega) (by omega) (by simp) (by omega) h1
 simp only[List.take_zero,List.map_nil,List.nil_append,List.drop_zero] at eo
 refine(eo _).trans ?_
 dsimp only
 have hL2:s.Mass-(ws.map fun w=>s.Mass*w/ws.sum).sum=((Qot s.Mass ws).toNat:Int):=by
  have:s.Mass-(ws.map fun w=>s.Mass*w/ws.sum).sum=Qot s.Mass ws:=rfl
  omega
 rw[hL2]
 have hpk:=fun k=>Q8q (N:=N) hs h hN hp hL k N (Qot s.Mass ws).toNat 0 (Qov s.Mass ws) (by omega) (by omega) (Qkb _ _) (fun x hx=>by have:=Qsh h h0 x hx;omega)
 simp only[List.take_zero,List.foldl_nil,List.drop_zero] at hpk
 rw[show(ws.length:Int).toNat=ws.length by omega]
 refine(hpk _).trans ?_
 have hm:(L.take (Qot s.Mass ws).toNat).foldl bump (Qov s.Mass ws)=Qib s.Mass ws:=by
  rw[Qib,Qn3 h h0 hp hL]
 rw[hm]
 have hK:=Qjl hs h
 obtain⟨_,k1,k2,k3,k4,k5,k6,k7⟩:=hK
 have v:=Qo0 (Qjl hs h).v
 have:=v.h0
 have:=v.s0
 have:=v.g0
 have g1:=hs.h1
 have g2:=hs.s1
 have g3:=hs.g1
 have g4:=hs.h0
 have g5:=hs.s0
 have g6:=hs.g0
 have hpl:=fun k=>Q39 (N:=N) hs h k (Qib s.Mass ws) (Qhf _ _) (Qtb h h0 h1) N 0 [] s.Heat s.Silica s.Gas (by rw[List.drop_zero,Qhf];omega) rfl
 rw[Qbh (x:=s.Heat) (by omega) (by omega),Qbh (x:=s.Silica) (by omega) (by omega),Qbh (x:=s.Gas) (by omega) (by omega)] at hpl
 refine(hpl _).trans ?_
 rw[List.drop_zero,List.nil_append]
 have e:(Qib s.Mass ws).map (Qs8 s)=Qhi s ws:=rfl
 rw[e]
 unfold Qj5 at *
 dsimp only at *
 rw[Qbh (x:=s.Heat-_) (by omega) (by omega),Qbh (x:=s.Silica-_) (by omega) (by omega),Qbh (x:=s.Gas-_) (by omega) (by omega)]
end
end
section
theorem Q8i (N:Nat) (s:List Int) (k:Unit→Option Bool) (hl:s.length≤1000):∀(m i:Nat),(s.drop i).length<m →
  Qda N k s m i=bif (s.drop i).all (fun x=>btw x 0 1000000000000) then k () else some false:=by
 intro m
 induction m with
 |zero=>intro i h;cases h
 |succ m ih=>
  intro i h
  rw[Qda]
  cases hd:s.drop i with
  |nil=>
   have:=Qbs hd
   simp[show ¬((i:Int)<s.length) from by omega]
  |cons x l=>
   obtain⟨hg,hd',hlt⟩:=Qbg hd
   simp only[dlI hlt,cond_true,Qbu hg,Option.bind_some,Q4d,List.all_cons]
   cases btw x 0 1000000000000 with
   |false=>rfl
   |true=>rw[Bool.not_true,cond_false,w64S (i:=i) (by omega),ih (i+1) (dlt hd hd' h),hd',Bool.true_and]
theorem Q8l {N:Nat}{n:GNet}{s:List Int}(hl:s.length≤1000) (hN:1001≤N):Qhn N n s=some (stB n s):=by
 unfold Qhn stB
 simp only[Qbc]
 have:=Q8i N s (fun _=>some ((s.length:Int)==(n.Elements.length:Int))) hl N 0 (by simp;omega)
 rw[List.drop_zero] at this
 refine this.trans ?_
 have e:((s.length:Int)==(n.Elements.length:Int))=decide (s.length=n.Elements.length):=by
  by_cases h:s.length=n.Elements.length
  ·rw[h];simp
  ·rw[decide_eq_false h,beq_eq_false_iff_ne];omega
 rw[e]
 cases s.all fun x=>btw x 0 1000000000000<;>simp
theorem Zcc (N:Nat) (l:List Qaa) (k:Unit→Option Bool) (hl:l.length≤1000):∀(m i:Nat),(l.drop i).length<m →
  Qdu N l k m i=bif (l.drop i).all strB then k () else some false:=by
 intro m
 induction m with
 |zero=>intro i h;cases h
 |succ m ih=>
  intro i h
  rw[Qdu]
  cases hd:l.drop i with
  |nil=>
   have:=Qbs hd
   simp[show ¬((i:Int)<l.length) from by omega]
  |cons x q=>
   obtain⟨hg,hd',hlt⟩:=Qbg hd
   simp only[dlI hlt,cond_true,Qbu hg,Option.bind_some,Zct,List.all_cons]
   cases strB x with
   |false=>rfl
   |true=>rw[Bool.not_true,cond_false,w64S (i:=i) (by omega),ih (i+1) (dlt hd hd' h),hd',Bool.true_and]
theorem Zgr {N:Nat}{l:List Qaa}(hl:l.length≤1000) (hN:1001≤N):Qi2 N l=some (l.all strB):=by
 unfold Qi2
 simp only[Qbc]
 refine(Zcc N l _ hl N 0 (by simp;omega)).trans ?_
 rw[List.drop_zero]
 cases l.all strB<;>rfl
theorem Q82 (N:Nat) (n:GNet) (c:Int) (k:Int→Option Int) (hl:n.Elements.length≤1000):∀(m i:Nat) (a:Int),(n.Elements.drop i).length<m→0≤a→a≤i →
  Qc0 N n c k m a i=k (a+(((n.Elements.drop i).filter fun x=>decide (x.Kind=c)).length:Int)):=by
 intro m
 induction m with
 |zero=>intro i _ h;cases h
 |succ m ih=>
  intro i a h a0 a1
  rw[Qc0]
  cases hd:n.Elements.drop i with
  |nil=>
   have:=Qbs hd
   simp[show ¬((i:Int)<n.Elements.length) from by omega]
  |cons x q=>
   obtain⟨hg,hd',hlt⟩:=Qbg hd
   simp only[dlI hlt,cond_true,Qbu hg,Option.bind_some]
   rw[w64S (i:=i) (by omega),List.filter_cons]
   by_cases hk:x.Kind=c
   ·rw[show(x.Kind==c)=true by simpa using hk,cond_true,Qbh (x:=a+1) (by omega) (by omega),ih (i+1) _ (dlt hd hd' h) (by omega) (by omega),hd',if_pos (by simpa using hk),List.length_cons]
    congr 1
    omega
   ·rw[show(x.Kind==c)=false by simpa using hk,cond_false,ih (i+1) _ (dlt hd hd' h) (by omega) (by omega),hd',if_neg (by simpa using hk)]
def cntK (n:GNet) (c:Int):Nat:=(n.Elements.filter fun x=>decide (x.Kind=c)).length
theorem Qut {N:Nat}{n:GNet}(c:Int) (hl:n.Elements.length≤1000) (hN:1001≤N):Qgc N n c=some (cntK n c:Int):=by
 unfold Qgc
 simp only[Qbc]
 refine(Q82 N n c _ hl N 0 0 (by simp;omega) (Int.le_refl _) (by simp)).trans ?_
 rw[List.drop_zero,Int.zero_add]
 rfl
theorem Zer (n:GNet):cntK n 1=wcn n n.Elements.length:=by unfold cntK wcn;rw[List.take_length]
end
section
theorem Qr4 {κ β:Type}{k:κ}{f:κ→Option β}{r:Option β}(h:∀k',k'=k→f k'=r):Qbc k f=r:=by
 rw[Qbc]
 exact h k rfl
theorem Q76 (N:Nat) {x:Qaf}(hx:Qil x=true) {d:Int}(h0:0≤d) (h1:d≤9000000000000000000):Qk8 N x d=some (widI x d):=by
 obtain⟨a,b,c,e,f,g,_⟩:=Zkx hx h0 h1
 unfold Qk8 widI
 rw[a,b,f,g]
 rfl
section
variable {N : Nat} {n : GNet} (hs : Qim n) (hN : 1001 ≤ N) (hv : NetV n) {ws : List Qaa} (hf : FedV n ws) {i : Nat} {o : List (List Qaa)} {ls : List Qa1} (hI : InvT n ws i o ls) {x : Qaf} (hx : n.Elements[i]? = some x)
include hv hI hx in
theorem Q8y (hfr:x.From.length≤25) (k:List Qaa×List (List Qaa)×List Qa1×List Int→Option (Qe5×Int×Int)) (ss:List Int):∀(m j:Nat) (acc:List Qaa),(x.From.drop j).length<m→acc.length≤100+j→j≤25 →
  Qgm N x k m acc j o ls ss=k (acc++(x.From.drop j).map (Qg8 o),o,ls,ss):=by
 intro m
 induction m with
 |zero=>intro j _ h;cases h
 |succ m ih=>
  intro j acc h ha hj
  rw[Qgm]
  cases hd:x.From.drop j with
  |nil=>
   have:=Qbs hd
   simp[show ¬((j:Int)<x.From.length) from by omega]
  |cons p l=>
   obtain⟨hg,hd',hlt⟩:=Qbg hd
   have hpm:=List.mem_of_getElem? hg
   obtain⟨p1,_,_,_,p4,_,_⟩:=hv.port i x p hx hpm
   obtain⟨_,_,r,hr,hr2⟩:=Qps hv hI hx hpm
   have g1:getI o p.Element=some r:=by unfold getI;rw[if_pos p1,hr]
   have g2:getI r p.Outlet=some (Qg8 o p):=by unfold getI;rw[if_pos p4,hr2]
   simp only[dlI hlt,cond_true,chk,Qbu hg,Option.bind_some,g1,g2]
   rw[show decide ((([]:List Qaa).length+acc.length)*32≤140737488355328)=true by simp;omega,show decide (1≤([Qg8 o p]:List Qaa).length)=true from rfl,show decide (((([]:List Qaa)++acc).length+(([Qg8 o p]:List Qaa).take 1).length)*32≤140737488355328)=true by simp;omega]
   simp only[cond_true]
   rw[w64S (i:=j) (by omega),ih (j+1) _ (dlt hd hd' h) (by simp;omega) (by omega),hd']
   simp
end
section
variable {N : Nat} {n : GNet} (hs : Qim n) (hN : 1001 ≤ N) (hv : NetV n) {ws : List Qaa} (hf : FedV n ws) {st : List Int} (hst : StV n st)
theorem Q42 {α:Type}(a:List α) (x:α) (w:Nat) (h:a.length≤1000) (hw:w≤1000):decide ((a.length+[x].length)*w≤140737488355328)=true:=by
 rw[decide_eq_true_eq,List.length_singleton]
 have:(a.length+1)*w≤1001*1000:=Nat.mul_le_mul (by omega) hw
 omega
set_option maxHeartbeats 2000000 in
include hs hN hv hf hst in
theorem Q8n (k:Int×List (List Qaa)×List Qa1×List Int→Option (Qe5×Int×Int)):∀(m i:Nat) (o:List (List Qaa)) (ls:List Qa1) (ss:List Int) (y:Int),(n.Elements.drop i).length<m→i≤n.Elements.length→InvT n ws i o ls→ss.length=i→0≤y→y≤1000000*i →
  Qgn N n st ws k m y (wcn n i:Int) i o ls ss =
  Quk (Qst n.Table ((n.Elements.drop i).zip (st.drop i)) (ws.drop (wcn n i)) o ls ss y) (fun a=>some (Zmk,0,(a:Int))) (fun r=>k (r.2.2.2,r.1,r.2.1,r.2.2.1)):=by
 intro m
 induction m with
 |zero=>intro i _ _ _ _ h;cases h
 |succ m ih=>
  intro i o ls ss y h hi hI hss hy0 hy1
  have hsl:=Qxt hst
  have e0:=hs.e
  rw[Qgn]
  cases hd:n.Elements.drop i with
  |nil=>
   have:=Qbs hd
   have hi2:i=n.Elements.length:=by omega
   subst hi2
   rw[show decide ((n.Elements.length:Int)<(n.Elements.length:Int))=false by simp,cond_false,show st.drop n.Elements.length=[] from List.drop_of_length_le (by omega)]
   simp[Qst,Quk]
  |cons x l=>
   obtain⟨hg,hd',hlt⟩:=Qbg hd
   obtain⟨d,hgd,d0,d1⟩:=Zkz hst hlt
   have hds:st.drop i=d::st.drop (i+1):=by
    have hi:=(List.getElem?_eq_some_iff.1 hgd).1
    rw[List.drop_eq_getElem_cons hi]
    rw[List.getElem?_eq_getElem hi] at hgd
    cases hgd;rfl
   obtain⟨iv,it⟩:=Zdy hv hf hI hg
   have hxm:=List.mem_of_getElem? hg
   have hx:=hs.x x hxm
   have hA:=Qpl (hv.alone x hxm)
   have hinl:(insE o (ws.drop (wcn n i)) x).length≤100:=by
    unfold insE
    split
    ·rw[List.length_take];omega
    ·rw[List.length_map];omega
   have hwid:=Q76 N (hv.alone x hxm) d0 (show d≤9000000000000000000 by omega)
   have hwl:=Q6a (n:=n) (i:=i+1)
   have hws:=Qnv hg
   have hwn:wcn n n.Elements.length≤18:=by
    unfold wcn
    have:=List.length_filter_le (fun x:Qaf=>decide (x.Kind=1)) (n.Elements.take n.Elements.length)
    rw[List.take_length] at this ⊢
    omega
   have hin:∀(j:Int×List Qaa×List (List Qaa)×List Qa1×List Int→Option (Qe5×Int×Int)),
     (bif (x.Kind==1) then chk (decide (0≤(wcn n i:Int))&&decide ((wcn n i:Int)≤w64 ((wcn n i:Int)+1))&&decide (w64 ((wcn n i:Int)+1)≤(ws.length:Int)))<|j (w64 ((wcn n i:Int)+1),(ws.drop (wcn n i:Int).toNat).take ((w64 ((wcn n i:Int)+1)).toNat-(wcn n i:Int).toNat),o,ls,ss) else j ((wcn n i:Int),[],o,ls,ss)) =
     j ((wcn n (i+1):Int),(if x.Kind=1 then(ws.drop (wcn n i)).take 1 else[]),o,ls,ss):=fun j=>by
    by_cases h1:x.Kind=1
    ·rw[if_pos h1] at hws
     have hlt:wcn n i<ws.length:=by rw[hf.len];omega
     rw[show(x.Kind==1)=true by simpa using h1,cond_true,if_pos h1,Qbh (x:=(wcn n i:Int)+1) (by omega) (by omega),hws]
     simp only[chk]
     rw[show(decide (0≤(wcn n i:Int))&&decide ((wcn n i:Int)≤(wcn n i:Int)+1)&&decide ((wcn n i:Int)+1≤(ws.length:Int)))=true by simp;omega,cond_true,show((wcn n i:Int)).toNat=wcn n i by omega,show((wcn n i:Int)+1).toNat-wcn n i=1 by omega]
     rfl
    ·rw[if_neg h1] at hws
     rw[show(x.Kind==1)=false by simpa using h1,cond_false,if_neg h1,hws]
     rfl
   simp only[dlI hlt,cond_true,Qbu hg,Option.bind_some]
   refine Qr4 fun k25 h25=>?_
   refine Qr4 fun k35 h35=>?_
   refine(hin k35).trans ?_
   rw[h35]
   dsimp only
   refine Qr4 fun k40 h40=>?_
   have hfl:(if x.Kind=1 then(ws.drop (wcn n i)).take 1 else([]:List Qaa)).length≤1:=by
    split
    ·rw[List.length_take];omega
    ·simp
   refine(Q8y (N:=N) hv hI hg hx.1 k40 ss N 0 _ (by simp;omega) (by omega) (by omega)).trans ?_
   have hins:(if x.Kind=1 then(ws.drop (wcn n i)).take 1 else([]:List Qaa))++(x.From.drop 0).map (Qg8 o)=insE o (ws.drop (wcn n i)) x:=by
    unfold insE
    by_cases h1:x.Kind=1
    ·rw[if_pos h1,if_pos h1,hA.well h1];simp
    ·rw[if_neg h1,if_neg h1];simp
   rw[hins,h40]
   dsimp only
   have htot:Qiq N (insE o (ws.drop (wcn n i)) x)=some (totS (insE o (ws.drop (wcn n i)) x)):=by rw[Q3x (by omega) hN,Qqk iv (by omega)]
   rw[htot,Option.bind_some,Qbu hgd,Option.bind_some,hwid,Option.bind_some,hds,List.zip_cons_cons,Qst]
   have hK:=Qz3 hv hf hI hg
   have hI2:=Qz2 hv hf hI hg hK
   generalize totS (insE o (ws.drop (wcn n i)) x)=s at *
   by_cases hm:s.Mass>widI x d
   ·rw[if_pos hm,decide_eq_true hm,cond_true,hI.lo]
    rfl
   rw[if_neg hm,decide_eq_false hm,cond_false]
   have hw:ws.drop (wcn n (i+1))=if x.Kind=1 then(ws.drop (wcn n i)).drop 1 else ws.drop (wcn n i):=by
    rw[hws]
    split
    ·rw[List.drop_drop]
    ·rfl
   rw[←hw]
   have hlo:=hI.lo
   have hll:=hI.ll
   have hq:=hK.q
   have hqq:=hK.q0
   have hc0:=hK.c0
   have ht0:=hK.t0
   have ht1:=hK.t1
   have hsq:=it.s1
   have hsm:=it.m1
   have hvs:=(Qo0 hK.v).s0
   have hih:=ih (i+1) _ _ (ss++[d+(actE n.Table x s).2.1.Scale]) (y+(actE n.Table x s).2.2) (dlt hd hd' h) hlt hI2 (by simp[hss]) (by omega) (by omega)
   rw[hd'] at hih
   have fin:∀(O:List Qaa) (L:Qa1) (Y:Int),(O,L,Y)=actE n.Table x s →
     (chk (decide ((o.length+([O]).length)*24≤140737488355328))<|
      chk (decide (1≤([(⟨L.Heat,L.Silica,L.Gas,L.Scale⟩:Qa1)]).length))<|
      chk (decide ((ls.length+(([(⟨L.Heat,L.Silica,L.Gas,L.Scale⟩:Qa1)]).take 1).length)*32≤140737488355328))<|
      chk (decide ((ss.length+([w64 (d+L.Scale)]).length)*8≤140737488355328))<|
      k25 (y+Y,(wcn n (i+1):Int),o++([O]),ls++(([(⟨L.Heat,L.Silica,L.Gas,L.Scale⟩:Qa1)]).take 1),ss++([w64 (d+L.Scale)]))) =
     Quk (Qst n.Table (l.zip (st.drop (i+1))) (ws.drop (wcn n (i+1))) (o++[(actE n.Table x s).1]) (ls++[(actE n.Table x s).2.1]) (ss++[d+(actE n.Table x s).2.1.Scale]) (y+(actE n.Table x s).2.2)) (fun a=>some (Zmk,0,(a:Int))) (fun r=>k (r.2.2.2,r.1,r.2.1,r.2.2.1)):=fun O L Y e=>by
    rw[←hih,←e,h25]
    rw[←e] at hq hqq hc0 hvs
    dsimp only at hq hqq hc0 hvs
    dsimp only
    rw[Qbh (x:=d+L.Scale) (by omega) (by omega),w64S (i:=i) (by omega)]
    simp only[chk]
    rw[Q42 o O 24 (by omega) (by omega),show decide (1≤([(⟨L.Heat,L.Silica,L.Gas,L.Scale⟩:Qa1)]).length)=true from rfl,show([(⟨L.Heat,L.Silica,L.Gas,L.Scale⟩:Qa1)]).take 1=[L] from rfl,Q42 ls L 32 (by omega) (by omega),Q42 ss _ 8 (by omega) (by omega)]
    rfl
   by_cases h3:x.Kind=3
   ·have e:actE n.Table x s=([⟨s.Mass,s.Heat-Qn9 x s,s.Silica,s.Gas⟩],⟨Qn9 x s,0,0,0⟩,0):=by unfold actE;rw[if_pos h3]
    have hc:0≤Qn9 x s∧Qn9 x s≤s.Heat:=by
     have:=hA.a3 h3
     have:=it.h0
     unfold Qn9;split<;>omega
    have:=it.h1
    have hcl:(if s.Heat<x.Amount then s.Heat else x.Amount)=Qn9 x s:=rfl
    refine Eq.trans ?_ (fin _ _ _ e.symm)
    rw[show(x.Kind==3)=true by simpa using h3,show(x.Kind==4)=false by rw[h3];rfl,show(x.Kind==5)=false by rw[h3];rfl]
    simp only[Qbc,cond_true,cond_false,hcl,chk,Int.add_zero]
    rw[Qbh (x:=s.Heat-Qn9 x s) (by omega) (by omega)]
    rfl
   by_cases h4:x.Kind=4
   ·have hlv:=hv.level x hxm
    obtain⟨hgr,hrow⟩:=Q6f hv.tab (Qf4.2 hlv)
    have hgr':getI n.Table x.Level=some (Qe4 n.Table x.Level):=hgr
    have hk:=Qz5 (r:=Qe4 n.Table x.Level) hrow it
    have hfr:Qji N (Qe4 n.Table x.Level) s=some (flG (Qe4 n.Table x.Level) s):=Q35 N hrow it
    have k1:=hk.km
    have k2:=hk.st.m0
    have k3:=hk.wa.m0
    rw[show(x.Kind==3)=false by rw[h4];rfl,show(x.Kind==4)=true by simpa using h4,show(x.Kind==5)=false by rw[h4];rfl]
    simp only[Qbc,cond_true,cond_false,hgr',Option.bind_some,hfr]
    rw[Qbh (x:=y+(flG (Qe4 n.Table x.Level) s).Steam.Mass) (by omega) (by omega)]
    by_cases h0:x.Amount=0
    ·have ha:actE n.Table x s=([(flG (Qe4 n.Table x.Level) s).Steam,(flG (Qe4 n.Table x.Level) s).Water],⟨0,0,0,(flG (Qe4 n.Table x.Level) s).Scale⟩,(flG (Qe4 n.Table x.Level) s).Steam.Mass):=by
      unfold actE
      rw[if_neg h3,if_pos h4,if_pos h0]
     rw[decide_eq_false (show ¬x.Amount>0 by omega),cond_false]
     have:=fin _ _ _ ha.symm
     clear fin hih
     generalize flG (Qe4 n.Table x.Level) s=p at this ⊢
     exact this
    ·have hav:=hA.a4 h4
     have hwt:=Q3s (a:=x.Amount) (by omega) hav.2
     have ha:actE n.Table x s=([totS [(flG (Qe4 n.Table x.Level) s).Steam,(Qhi (flG (Qe4 n.Table x.Level) s).Water [1000-x.Amount,x.Amount]).getD 1 zs],(Qhi (flG (Qe4 n.Table x.Level) s).Water [1000-x.Amount,x.Amount]).getD 0 zs],
      ⟨(Qj5 (flG (Qe4 n.Table x.Level) s).Water [1000-x.Amount,x.Amount]).Heat,(Qj5 (flG (Qe4 n.Table x.Level) s).Water [1000-x.Amount,x.Amount]).Silica,(Qj5 (flG (Qe4 n.Table x.Level) s).Water [1000-x.Amount,x.Amount]).Gas,(flG (Qe4 n.Table x.Level) s).Scale⟩,(flG (Qe4 n.Table x.Level) s).Steam.Mass):=by
      unfold actE
      rw[if_neg h3,if_pos h4,if_neg h0]
     rw[decide_eq_true (show x.Amount>0 by omega),cond_true,Qbh (x:=1000-x.Amount) (by omega) (by omega)]
     have hsh:Qid N (flG (Qe4 n.Table x.Level) s).Water [1000-x.Amount,x.Amount]=_:=Q1j (N:=N) hk.wa hwt hN
     obtain⟨u,v,hp⟩:=Qvg (s:=(flG (Qe4 n.Table x.Level) s).Water) (a:=1000-x.Amount) (b:=x.Amount)
     have hKp:=Qjl hk.wa hwt
     rw[hp] at hsh hKp ha
     have htot2:Qiq N [(flG (Qe4 n.Table x.Level) s).Steam,v]=some (totS [(flG (Qe4 n.Table x.Level) s).Steam,v]):=by
      rw[Q3x (by simp) hN,Qqk (fun z hz=>by
       simp at hz
       rcases hz with rfl |rfl
       ·exact hk.st
       ·exact hKp.v _ (by simp)) (by simp)]
     refine(congrArg (fun z=>Option.bind z _) hsh).trans ?_
     simp only[Option.bind_some,show getI [u,v] 1=some v from rfl,show getI [u,v] 0=some u from rfl]
     refine(congrArg (fun z=>Option.bind z _) htot2).trans ?_
     have:=fin _ _ _ ha.symm
     clear fin hih
     exact this
   by_cases h5:x.Kind=5
   ·have e:actE n.Table x s=(Qhi s x.Weights,⟨(Qj5 s x.Weights).Heat,(Qj5 s x.Weights).Silica,(Qj5 s x.Weights).Gas,0⟩,0):=by unfold actE;rw[if_neg h3,if_neg h4,if_pos h5]
    have hsh:=Q1j (N:=N) it (hA.w5 h5) hN
    rw[show(x.Kind==3)=false by rw[h5];rfl,show(x.Kind==4)=false by rw[h5];rfl,show(x.Kind==5)=true by simpa using h5]
    simp only[Qbc,cond_true,cond_false,chk,show decide (1≤([s]:List Qaa).length)=true from rfl,hsh,Option.bind_some]
    have:=fin _ _ _ e.symm
    rw[Int.add_zero y] at this
    exact this
   ·have e:actE n.Table x s=([s],⟨0,0,0,0⟩,0):=by unfold actE;rw[if_neg h3,if_neg h4,if_neg h5]
    rw[show(x.Kind==3)=false by simpa using h3,show(x.Kind==4)=false by simpa using h4,show(x.Kind==5)=false by simpa using h5]
    simp only[Qbc,cond_false,chk,show decide (1≤([s]:List Qaa).length)=true from rfl,cond_true]
    have:=fin _ _ _ e.symm
    rw[Int.add_zero y] at this
    exact this
include hs hN hv hf hst in
theorem Q6h:Qmb N n st ws=some (Quk (Qvh n st ws) (fun a=>(Zmk,0,(a:Int))) (fun r=>(⟨r.1,r.2.1,r.2.2.1⟩,r.2.2.2,-1))):=by
 have e0:=hs.e
 unfold Qmb
 simp only[Qbc]
 have:=Q8n hs hN hv hf hst (fun x=>match x with |(y1,y2,y3,y4)=>some ((⟨y2,y3,y4⟩:Qe5),y1,(-1))) N 0 [] [] [] 0 (by simp;omega) (Nat.zero_le _) (Qwd n ws) rfl (Int.le_refl _) (by simp)
 simp only[List.drop_zero,show wcn n 0=0 from rfl] at this
 refine this.trans ?_
 unfold Qvh
 cases Qst n.Table (n.Elements.zip st) ws [] [] [] 0<;>rfl
end
end
section
theorem Q65 (i:Nat):∀(r:List Qaa) (j:Nat),Qq2 i j r=(List.range r.length).map fun k:Nat=>(((i:Int),((j+k:Nat):Int)),r.getD k zs)
 |[],_=>rfl
 |x::r,j=>by
  rw[Qq2,Q65 i r (j+1),List.length_cons,List.range_succ_eq_map,List.map_cons,List.map_map]
  congr 1
  apply List.map_congr_left
  intro k _
  simp[show j+1+k=j+(k+1) by omega]
theorem Qx5 (O:List (List Qaa)):∀(els:List Qaf) (o pre:List (List Qaa)),O=pre++o→els.length=o.length→(∀(k:Nat) y r,els[k]? = some y→o[k]? = some r→(r.length:Int)=outl y) →
  Qii pre.length o=(Q1s pre.length els).map fun p=>(pq p,Qg8 O p)
 |[],[],_,_,_,_=>rfl
 |x::els,r::o,pre,hO,hl,hr=>by
  have h1:=hr 0 x r rfl rfl
  have ih:=Qx5 O els o (pre++[r]) (by rw[hO];simp) (by simpa using hl) fun k y q hy hq=>hr (k+1) y q (by simpa using hy) (by simpa using hq)
  rw[List.length_append,List.length_singleton] at ih
  rw[Qii,Q1s,List.map_append,ih,Q65,List.map_map,show(outl x).toNat=r.length by omega]
  congr 1
  apply List.map_congr_left
  intro k hk
  have hk':=List.mem_range.1 hk
  have hg:O.getD pre.length []=r:=by rw[hO,List.getD_eq_getElem?_getD,List.getElem?_append_right (Nat.le_refl _),Nat.sub_self];rfl
  simp only[Function.comp,pq,Qg8,Int.toNat_natCast,hg,Nat.zero_add]
 |[],_::_,_,_,h,_=>by simp at h
 |_::_,[],_,_,h,_=>by simp at h
section
variable {n : GNet} (hv : NetV n) {ws : List Qaa} {o : List (List Qaa)} {ls : List Qa1} (hI : InvT n ws n.Elements.length o ls)
include hI
theorem Zc4:Qii 0 o=(Q1s 0 n.Elements).map fun p=>(pq p,Qg8 o p):=Qx5 o n.Elements o [] rfl hI.lo.symm hI.rows
theorem Zm8 {p:Qbn}(hp:p∈Zop n):0≤p.Element∧0≤p.Outlet∧∃r,o[p.Element.toNat]? = some r∧r[p.Outlet.toNat]? = some (Qg8 o p):=by
 have h1:(pq p,Qg8 o p)∈Qii 0 o:=by
  rw[Zc4 hI]
  exact List.mem_map.2 ⟨p,(List.mem_filter.1 hp).1,rfl⟩
 obtain⟨a,b,r,c,d⟩:=Qpf.1 h1
 refine⟨by simpa using a,b,r,?_,d⟩
 rw[show(p.Element-((0:Nat):Int)).toNat=p.Element.toNat by simp] at c
 exact c
end
theorem Q1e (N:Nat) (l:List Qaa) (k:List Qaa→Option (List Qaa)) (hl:l.length≤1000):∀(m i:Nat) (acc:List Qaa),(l.drop i).length<m→acc.length=i→Qdw N l k m acc i=k (acc++l.drop i):=by
 intro m
 induction m with
 |zero=>intro i _ h;cases h
 |succ m ih=>
  intro i acc h ha
  rw[Qdw]
  cases hd:l.drop i with
  |nil=>
   have:=Qbs hd
   simp[show ¬((i:Int)<l.length) from by omega]
  |cons p q=>
   obtain⟨hg,hd',hlt⟩:=Qbg hd
   simp only[dlI hlt,cond_true,Qbu hg,Qlx,Option.bind_some,chk]
   rw[show decide ((acc.length+[p].length)*32≤140737488355328)=true by simp;omega,cond_true,w64S (i:=i) (by omega),
    ih (i+1) _ (dlt hd hd' h) (by simp[ha]),hd',List.append_assoc]
   rfl
theorem Q8f {N:Nat}{l:List Qaa}(hl:l.length≤1000) (hN:1001≤N):Qi5 N l=some l:=by
 unfold Qi5
 simp only[Qbc]
 refine(Q1e N l _ hl N 0 [] (by simp;omega) rfl).trans ?_
 rw[List.drop_zero,List.nil_append]
end
section
theorem Zb3:Qhc 2000=some true:=by decide +kernel
end
section
theorem Q2q {N:Nat}{n:GNet}(hs:Qim n) (hN:1001≤N) {ws:List Qaa}(hl:ws.length≤1000):Qh7 N n ws=some (fedI n ws):=by
 have e0:=hs.e
 unfold Qh7 fedI
 simp only[Qbc,Qut 1 (show n.Elements.length≤1000 by omega) hN,Option.bind_some,Zer,Zgr hl hN,Q3x hl hN]
 by_cases h1:ws.length=wcn n n.Elements.length
 ·rw[decide_eq_true h1,show((ws.length:Int) != (wcn n n.Elements.length:Int))=false by rw[bne_eq_false_iff_eq];omega]
  cases ha:ws.all strB with
  |false=>rfl
  |true=>
   have hall:∀s∈ws,StrV s:=fun s h=>Qpo.1 (List.all_eq_true.1 ha s h)
   rw[Qqk hall hl]
   simp only[cond_false,Bool.not_true,Bool.true_and,cond_true]
   by_cases h2:(totS ws).Mass>1000000
   ·rw[decide_eq_true h2,if_pos h2];rfl
   ·rw[decide_eq_false h2,if_neg h2]
    by_cases h3:(totS ws).Gas>1000000000
    ·rw[decide_eq_true h3,if_pos h3];rfl
    ·rw[decide_eq_false h3,if_neg h3];rfl
 ·rw[decide_eq_false h1,show((ws.length:Int) != (wcn n n.Elements.length:Int))=true by rw[bne_iff_ne];omega];rfl
theorem Zdw (N:Nat) (l:List Int) (k:Unit→Option Bool) (hl:l.length≤1000):∀(m i:Nat),(l.drop i).length<m→Qfk N l l k m i=k ():=by
 intro m
 induction m with
 |zero=>intro i h;cases h
 |succ m ih=>
  intro i h
  rw[Qfk]
  cases hd:l.drop i with
  |nil=>
   have:=Qbs hd
   simp[show ¬((i:Int)<l.length) from by omega]
  |cons x q=>
   obtain⟨hg,hd',hlt⟩:=Qbg hd
   simp only[dlI hlt,cond_true,Qbu hg,Option.bind_some,bne_self_eq_false,cond_false]
   rw[w64S (i:=i) (by omega),ih (i+1) (dlt hd hd' h)]
theorem Zne {N:Nat}{l:List Int}(hl:l.length≤1000) (hN:1001≤N):Qkj N l l=some true:=by
 unfold Qkj
 simp only[Qbc,bne_self_eq_false,cond_false]
 exact Zdw N l _ hl N 0 (by simp;omega)
end
section
def Qe7 (N:Nat) (k1:Unit→Option Bool) (p1:List (List Qaa)):Nat→Int→Option Bool
  |0,_=>none
  |n7+1,y5=>
    bif (decide (y5<(p1.length:Int))) then
     (getI p1 y5).bind fun x9=>
     bif (decide ((x9.length:Int)>25)) then
      some false
     else
      Qe7 N k1 p1 n7 (w64 (y5+1))
    else
     k1 ()
def Qlz (N:Nat) (p0:GNet) (p1:List (List Qaa)):Option Bool:=
  Qbc (fun _=>
    (Ql1 N p0 ([])).bind fun x3=>
    bif x3 then
     some (decide ((p1.length:Int)≤8))
    else
     some false) fun k1:Unit→Option Bool=>
  Qe7 N k1 p1 N 0
def Qva (p1:List (List Qaa)):AV:=.dat 1 (p1.map Qag)
def Qxq (p0:GNet):Slot:=.own 2 [[(.dat 5 (p0.Table.map Qap)),(.dat 7 (p0.Elements.map Qae))]]
def Zks (p0:GNet):AV:=.agg [(.dat 5 (p0.Table.map Qap)),(.dat 7 (p0.Elements.map Qae))]
def Q3n (p0:GNet) (x3:Bool):List (Nat×Rec):=[(1,rp [fu 14,((.tmp 18),(Zks p0)),((.const (.slice none 0 0)),nilS)] (B x3))]
def Zqn:AV:=.dat 4 (([]:List Qaa).map Qad)
theorem Qzy (N:Nat) (p0:GNet) (p1:List (List Qaa)) (r:Bool) (h:Qlz N p0 p1=some r):Spec prog 39 [(.agg (Qgw p0)),(.dat 1 (p1.map Qag))] [] (B r) []:=by
  refine sA func39 0 fun _ _ _ hq hd0=>?_
  unfold Qlz at h
  refine wxz ?_
  obtain⟨k1,hk_k1,h⟩:=jko h
  refine wjn (τ:=Unit) (fun t=>k1 t=some r) (fun _=>⟨mk 25 [(1,(Qva p1)),(2,.ref 0 2 0 0)],[(Qxq p0)]⟩) (fun t h=>?_) ?_
  ·subst hk_k1
   obtain⟨x3,hf2,h⟩:=bno h
   refine hpre (A:=(Q3n p0 x3)) ⟨awk (rd':=(.func 14,(.fn (.func 14) [] []))::[(.tmp 18,(Zks p0)),((.const (.slice none 0 0)),Zqn)]) ⟨rfl,lrf,rfl,lrf,rfl,Less.nil,tv⟩ (apv Zoo (Qz0 N p0 ([]) _ hf2) (nlc (NLt.agg _ (nlc (nld Qan _) (nlc (nld Qab _) nl0))) (nlc (nld Qal _) nl0)) nll),tv⟩ fun q1_=>?_
   refine bfe h (fun hb4 h=>?_) fun hb4 h=>?_
   ·refine wx tbk (hcat (Q3n p0 x3) [(2,rp [(.tmp 19,B x3)] (B true)),(4,rp [(.tmp 20,B true),(.tmp 21,(Qva p1))] (I ((p1.length:Int))))]) (hap q1_ ⟨asb hb4 (amv rfl),ag_ (alq 1 Qag p1 underlying49),tv⟩)<|Qai ?_
    obtain rfl:=osi h
    exact fend ⟨[(B ((decide ((p1.length:Int)≤8))))],⟨rot,tv⟩,rfl⟩ nll
   ·exact wx tbk (hcat (Q3n p0 x3) [(2,rp [(.tmp 19,B x3)] (B false))]) (hap q1_ ⟨asb hb4 (amv rfl),tv⟩)<|Qai<|frb h
  ·skip
   refine wxz<|Qao ?_
   refine wmr (mto (n:=25) (l':=[(1,(Qva p1)),(2,.ref 0 2 0 0),(5,I 0)]) (own':=[(Qxq p0)]) [(1,(Qva p1)),(2,.ref 0 2 0 0),(5,I 0)] [0] [(Qxq p0)] hq (pc (rnd Qak) (prr (pw pn))) (qb (lc (rnd Qan) (lc (rnd Qab) ln)) qn)) ?_
   refine Qbl (τ:=Int) (fun n t=>Qe7 N k1 p1 n t=some r) (fun y5=>⟨mk 25 [(1,(Qva p1)),(2,.ref 0 2 0 0),(5,I y5)],[(Qxq p0)]⟩) (fun t h=>by rw[Qe7] at h;cases h) (fun n7 ih y5 h=>?_) N (0) h
   rw[Qe7] at h
   skip
   refine wsq<|wx tbk [(2,rp _ _)] ⟨alq 1 Qag p1 underlying49,tv⟩ ?_
   refine bfe h (fun hc8 h=>?_) fun hc8 h=>?_
   ·refine wft hc8<|Qam<|thn<|wsq<|Qao ?_
    obtain⟨x9,hg10,h⟩:=bno h
    obtain⟨hi11,hj12⟩:=gsm hg10
    refine wx tbk [(2,rp _ _),(4,rp _ _)] ⟨aiq underlying49 ti28 Qag hi11 hj12,alq 4 Qad x9 underlying28,tv⟩ ?_
    refine bfe h (fun hc13 h=>?_) fun hc13 h=>?_
    ·exact wft hc13<|wxz<|Qai<|Qar<|Qaj<|Qaj<|Qar<|Qaj<|frb h
    ·exact wfn hc13<|Qam<|bln<|thn<|wxz1<|thn<|arm (mto (n:=25) [(1,(Qva p1)),(2,.ref 0 2 0 0),(5,(I (w64 (y5+1))))] [0] [(Qxq p0)] hq (pc (rnd Qak) (prr (pw pn))) (qb (lc (rnd Qan) (lc (rnd Qab) ln)) qn)) (ih (w64 (y5+1)) h)
   ·exact wfn hc8<|Qa7<|Qau<|Qau<|Qa6 rfl<|thn<|⟨(),h,(mto (n:=25) [(1,(Qva p1)),(2,.ref 0 2 0 0)] [0] [(Qxq p0)] hq (pc (rnd Qak) (prr pn)) (qb (lc (rnd Qan) (lc (rnd Qab) ln)) qn))⟩
def Qe1 (N:Nat) (p0:List (List Qaa)) (k2:(List (List Qaa))→Option (List (List Qaa))):Nat→(List (List Qaa))→Int→Option (List (List Qaa))
  |0,_,_=>none
  |n7+1,y3,y4=>
    bif (decide (y4<(p0.length:Int))) then
     (getI p0 y4).bind fun x9=>
     (Qi5 N x9).bind fun x14=>
     chk (decide ((y3.length+([x14]).length)*24≤140737488355328))<|
     Qe1 N p0 k2 n7 (y3++([x14])) (w64 (y4+1))
    else
     k2 (y3)
def Qld (N:Nat) (p0:List (List Qaa)):Option (List (List Qaa)):=
  Qbc (fun y1=>
    some y1) fun k2:(List (List Qaa))→Option (List (List Qaa))=>
  Qe1 N p0 k2 N ([]) 0
def Q5u (p0:List (List Qaa)):AV:=.dat 1 (p0.map Qag)
theorem Qwb (N:Nat) (p0 r:List (List Qaa)) (h:Qld N p0=some r):Spec prog 41 [(.dat 1 (p0.map Qag))] [] (.dat 1 (r.map Qag)) []:=by
  refine sA func41 0 fun _ _ _ hq hd0=>?_
  unfold Qld at h
  refine wxz<|wxz ?_
  obtain⟨k2,hk_k2,h⟩:=jko h
  refine wjn (τ:=(List (List Qaa))) (fun t=>k2 t=some r) (fun y1=>⟨mk 20 [(3,(.acc 0 45 1 (y1.map Qag)))],[.tok]⟩) (fun y1 h=>?_) ?_
  ·subst hk_k2
   refine wxz<|Qai ?_
   obtain rfl:=osi h
   exact fie [(.dat 1 (y1.map Qag))] ⟨Qbz (v:=(.acc 0 45 1 (y1.map Qag))) rot Less.acc,tv⟩
  ·skip
   refine wxz<|Qao ?_
   refine wmr (Mor.trans (Qpe 0 45 1 3 (by kernel_rfl) (by kernel_rfl)) (mto (n:=20) (l':=[(0,(Q5u p0)),(3,(.acc 0 45 1 ((([]):List (List Qaa)).map Qag))),(4,I 0)]) (own':=[.tok]) [(0,(Q5u p0)),(3,(.acc 0 45 1 (([]:List (List Qaa)).map Qag))),(4,I 0)] [0] [.tok] hq (pc (rnd Qak) (pc (.rn (Qa3 rfl (Qay Qak _))) (pw pn))) (qc .tok qn))) ?_
   refine Qbl (τ:=(List (List Qaa))×Int) (fun n t=>Qe1 N p0 k2 n t.1 t.2=some r) (fun ⟨y3,y4⟩=>⟨mk 20 [(0,(Q5u p0)),(3,(.acc 0 45 1 (y3.map Qag))),(4,I y4)],[.tok]⟩) (fun t h=>by rw[Qe1] at h;cases h) (fun n7 ih t h=>?_) N ([],0) h
   obtain⟨y3,y4⟩:=t
   rw[Qe1] at h
   skip
   refine wsq<|wx tbk [(2,rp _ _)] ⟨alq 1 Qag p0 underlying49,tv⟩ ?_
   refine bfe h (fun hc8 h=>?_) fun hc8 h=>?_
   ·refine wft hc8<|Qam<|thn<|wsq<|Qao ?_
    obtain⟨x9,hg10,h⟩:=bno h
    obtain⟨hi11,hj12⟩:=gsm hg10
    obtain⟨x14,hf13,h⟩:=bno h
    obtain⟨ha15,h⟩:=cko h
    refine wx1 tbk [(3,rp _ _),(5,rp _ _),(6,rp [(.tmp 16,(.dat 4 (x14.map Qad)))] (.dat 1 (([x14]:List (List Qaa)).map Qag))),(7,⟨[(.tmp 11,(.acc 0 45 1 (y3.map Qag))),(.tmp 17,(.dat 1 (([x14]:List (List Qaa)).map Qag)))],[(0,.tok),(1,.unused)],(.acc 1 45 1 ((y3++([x14]):List (List Qaa)).map Qag)),[(0,.dead),(1,.tok)],false⟩)] ⟨aiq underlying49 ti28 Qag hi11 hj12,apw Zok (Qte N x9 _ hf13),Qbm (vs:=[(.dat 4 (x14.map Qad))]) rfl underlying31 ti45 tz45 rfl (by decide) rfl (by decide) (by rfl) (by rfl) (by rfl) rfl,Qc7 rfl underlying31 te45 (Base.acc _ _) rfl rfl (by rfl) (Qf7 Qag ha15) (Qf6 Qag ha15 (by decide)) (Qf5 Qag) rfl rfl,tv⟩<|bln<|thn<|wxz1<|thn ?_
    exact arm (mto (n:=20) [(0,(Q5u p0)),(3,(.acc 1 45 1 ((y3++([x14]):List (List Qaa)).map Qag))),(4,(I (w64 (y4+1))))] [1] [.tok] hq (pc (rnd Qak) (pc (.rn (Qa3 rfl (Qay Qak _))) (pw pn))) (qc .tok qn)) (ih (y3++([x14]),w64 (y4+1)) h)
   ·exact wfn hc8<|Qa7<|Qau<|Qau<|Qa6 rfl<|thn<|⟨(y3),h,(mto (n:=20) [(3,(.acc 0 45 1 (y3.map Qag)))] [0] [.tok] hq (pc (.rn (Qa3 rfl (Qay Qak _))) pn) (qc .tok qn))⟩
def Qfh (N:Nat) (p0:GNet) (p2:List (List Qaa)) (k7:Unit→Option Int):Nat→Int→Option Int
  |0,_=>none
  |n10+1,y8=>
    bif (decide (y8<(p2.length:Int))) then
     (getI p2 y8).bind fun x12=>
     (Qis N p0 x12).bind fun x17=>
     bif (x17 != 0) then
      some x17
     else
      Qfh N p0 p2 k7 n10 (w64 (y8+1))
    else
     k7 ()
def Qmd (N:Nat) (p0:GNet) (p1:List Int) (p2:List (List Qaa)):Option Int:=
  (Qjj N p0 p1).bind fun x2=>
  bif (x2 != 0) then
   some x2
  else
   (Qcp N (p2.length:Int) 1 6).bind fun x5=>
   bif (!x5) then
    some 3
   else
    Qbc (fun _=>
      some 0) fun k7:Unit→Option Int=>
    Qfh N p0 p2 k7 N 0
def Q5s (p2:List (List Qaa)):AV:=.dat 1 (p2.map Qag)
def Q5t (p0:GNet):Slot:=.own 2 [[(.dat 5 (p0.Table.map Qap)),(.dat 7 (p0.Elements.map Qae))]]
theorem Qxf (N:Nat) (p0:GNet) (p1:List Int) (p2:List (List Qaa)) (r:Int) (h:Qmd N p0 p1 p2=some r):Spec prog 77 [(.agg (Qgw p0)),(.dat 1 (p1.map Qac)),(.dat 1 (p2.map Qag))] [] (I r) []:=by
  refine sA func77 0 fun _ _ _ hq hd0=>?_
  unfold Qmd at h
  refine wxz<|wsq ?_
  obtain⟨x2,hf1,h⟩:=bno h
  refine wx tbk [(2,rp _ _)] ⟨apw Zef (Qpb N p0 p1 _ hf1),tv⟩<|wxz ?_
  refine bfe h (fun hc3 h=>?_) fun hc3 h=>?_
  ·refine wft hc3<|wxz<|Qai<|Qaj ?_
   obtain rfl:=osi h
   exact fend ⟨[I x2],⟨rot,tv⟩,rfl⟩ nll
  ·refine wfn hc3<|Qam<|thn<|wsq ?_
   obtain⟨x5,hf4,h⟩:=bno h
   refine wx tbk [(1,rp _ _),(2,rp _ _)] ⟨alq 1 Qag p2 underlying31,apw Qmi (Qdl N (p2.length:Int) 1 6 _ hf4),tv⟩ ?_
   refine bfe h (fun hc6 h=>?_) fun hc6 h=>?_
   ·refine wft hc6<|wxz<|Qai<|Qaj ?_
    obtain rfl:=osi h
    exact fend ⟨[I 3],⟨rot,tv⟩,rfl⟩ nll
   ·refine wfn hc6<|Qam<|thn ?_
    obtain⟨k7,hk_k7,h⟩:=jko h
    refine wjn (τ:=Unit) (fun t=>k7 t=some r) (fun _=>⟨mk 34 [],[]⟩) (fun t h=>?_) ?_
    ·subst hk_k7
     refine wxz<|Qai ?_
     obtain rfl:=osi h
     exact fend ⟨[I 0],⟨rot,tv⟩,rfl⟩ nll
    ·skip
     refine wx tbk [(1,rp _ _)] ⟨alq 1 Qag p2 underlying31,tv⟩<|Qao ?_
     refine wmr (mto (n:=34) (l':=[(3,.ref 0 2 0 0),(21,(Q5s p2)),(22,(I ((p2.length:Int)))),(23,I 0)]) (own':=[(Q5t p0)]) [(3,.ref 0 2 0 0),(21,(Q5s p2)),(22,(I ((p2.length:Int)))),(23,I 0)] [0] [(Q5t p0)] hq (prr (pc (rnd Qak) (pw (pw pn)))) (qb (lc (rnd Qan) (lc (rnd Qab) ln)) qn)) ?_
     refine Qbl (τ:=Int) (fun n t=>Qfh N p0 p2 k7 n t=some r) (fun y8=>⟨mk 34 [(3,.ref 0 2 0 0),(21,(Q5s p2)),(22,(I ((p2.length:Int)))),(23,I y8)],[(Q5t p0)]⟩) (fun t h=>by rw[Qfh] at h;cases h) (fun n10 ih y8 h=>?_) N (0) h
     rw[Qfh] at h
     skip
     refine wxz<|wsq ?_
     refine bfe h (fun hc11 h=>?_) fun hc11 h=>?_
     ·refine wft hc11<|Qam<|thn<|wsq<|Qao ?_
      obtain⟨x12,hg13,h⟩:=bno h
      obtain⟨hi14,hj15⟩:=gsm hg13
      refine wx tbk [(0,rp _ _)] ⟨aiq underlying31 ti45 Qag hi14 hj15,tv⟩ ?_
      obtain⟨x17,hf16,h⟩:=bno h
      refine wx tbk [(2,rp _ _)] ⟨apw Zec (Qoo N p0 x12 _ hf16),tv⟩<|wxz ?_
      refine bfe h (fun hc18 h=>?_) fun hc18 h=>?_
      ·refine wft hc18<|wxz<|Qai<|Qar<|Qaj<|Qaj<|Qar<|Qaj ?_
       obtain rfl:=osi h
       exact fend ⟨[I x17],⟨rot,tv⟩,rfl⟩ nll
      ·exact wfn hc18<|Qam<|bln<|thn<|wxz1<|thn<|arm (mto (n:=34) [(3,.ref 0 2 0 0),(21,(Q5s p2)),(22,(I ((p2.length:Int)))),(23,(I (w64 (y8+1))))] [0] [(Q5t p0)] hq (prr (pc (rnd Qak) (pw (pw pn)))) (qb (lc (rnd Qan) (lc (rnd Qab) ln)) qn)) (ih (w64 (y8+1)) h)
     ·exact wfn hc11<|Qa7<|Qau<|Qau<|Qa6 rfl<|thn<|⟨(),h,(mto (n:=34) [] [] [] hq pn qn)⟩
def Qdf (N:Nat) (p0:GNet) (p1:List Int) (k2:(List Qdt)→Option ((List Qdt)×Bool)) (p2:List (List Qaa)):Nat→(List Qdt)→Int→Option ((List Qdt)×Bool)
  |0,_,_=>none
  |n7+1,y3,y4=>
    bif (decide (y4<(p2.length:Int))) then
     (getI p2 y4).bind fun x9=>
     (Qgd N p0 p1 x9).bind (
      Sum.elim (fun x15=>
        bif (decide (x15≥0)) then
         some ([],false)
        else
         none)
      (fun x17=>
        bif (decide (x17.1≥0)) then
         some ([],false)
        else
         chk (decide ((p0.Elements.length:Int).toNat≤x17.2.2.1.length))<|
         chk (decide ((p0.Elements.length:Int).toNat≤x17.2.2.2.1.length))<|
         chk (decide (p1.length≤x17.2.2.2.2.length))<|
         chk (decide ((y3.length+([(⟨p0,(⟨x17.2.2.1.take ((p0.Elements.length:Int).toNat),x17.2.2.2.1.take ((p0.Elements.length:Int).toNat),x17.2.2.2.2.take p1.length⟩:Qe5),x9,x17.2.1⟩:Qdt)]).length)*8≤140737488355328))<|
         Qdf N p0 p1 k2 p2 n7 (y3++([(⟨p0,(⟨x17.2.2.1.take ((p0.Elements.length:Int).toNat),x17.2.2.2.1.take ((p0.Elements.length:Int).toNat),x17.2.2.2.2.take p1.length⟩:Qe5),x9,x17.2.1⟩:Qdt)])) (w64 (y4+1))))
    else
     k2 (y3)
def Qi3 (N:Nat) (p0:GNet) (p1:List Int) (p2:List (List Qaa)):Option ((List Qdt)×Bool):=
  Qbc (fun y1=>
    some (y1,true)) fun k2:(List Qdt)→Option ((List Qdt)×Bool)=>
  Qdf N p0 p1 k2 p2 N ([]) 0
def Qom (p2:List (List Qaa)):AV:=.dat 1 (p2.map Qag)
def Qqb (p0:GNet):AV:=.dat 5 (p0.Table.map Qap)
def Qqa (p0:GNet):AV:=.dat 7 (p0.Elements.map Qae)
def Qon (p0:GNet):Slot:=.own 2 [[(Qqb p0),(Qqa p0)]]
def Ql5 (y3:List Qdt):AV:=.acc 1 136 1 (y3.map Qdj)
def Qp9 (p0:GNet):AV:=.agg [(Qqb p0),(Qqa p0)]
def Qdq (x9:List Qaa):AV:=.dat 4 (x9.map Qad)
def Zqm:Slot:=.own 1 [[(.lit (.pointer none))]]
def Zbh:AV:=.dat 1 (([]:List Qdt).map Qdj)
def Qox:Slot:=.own 1 [[(.ref 4 7 (0) 0)]]
def Zbk (p0:GNet) (p1:List Int) (x9:List Qaa) (x17:(Int×Int×(List (List Qaa))×(List Qa1)×(List Int))):Slot:=.own 7 [[(Qqb p0),(Qqa p0),(.own 5 1 (0) ((p0.Elements.length:Int).toNat)),(.own 6 4 (0) ((p0.Elements.length:Int).toNat)),(.own 7 1 (0) p1.length),(Qdq x9),(I x17.2.1)]]
def Qsr (x17:(Int×Int×(List (List Qaa))×(List Qa1)×(List Int))):Slot:=.own 1 (x17.2.2.2.2.map Qac)
def Qqj (x17:(Int×Int×(List (List Qaa))×(List Qa1)×(List Int))) (p0:GNet):AV:=.dat 1 ((x17.2.2.1.take ((p0.Elements.length:Int).toNat):List (List Qaa)).map Qag)
def Qu9 (x17:(Int×Int×(List (List Qaa))×(List Qa1)×(List Int))) (p0:GNet):AV:=.dat 4 ((x17.2.2.2.1.take ((p0.Elements.length:Int).toNat):List Qa1).map Qat)
def Zbj (p0:GNet) (x17:(Int×Int×(List (List Qaa))×(List Qa1)×(List Int))) (p1:List Int) (x9:List Qaa):AV:=.dat 1 (([(⟨p0,(⟨x17.2.2.1.take ((p0.Elements.length:Int).toNat),x17.2.2.2.1.take ((p0.Elements.length:Int).toNat),x17.2.2.2.2.take p1.length⟩:Qe5),x9,x17.2.1⟩:Qdt)]:List Qdt).map Qdj)
def Zbi (y3:List Qdt) (p0:GNet) (x17:(Int×Int×(List (List Qaa))×(List Qa1)×(List Int))) (p1:List Int) (x9:List Qaa):AV:=.acc 8 136 1 ((y3++([(⟨p0,(⟨x17.2.2.1.take ((p0.Elements.length:Int).toNat),x17.2.2.2.1.take ((p0.Elements.length:Int).toNat),x17.2.2.2.2.take p1.length⟩:Qe5),x9,x17.2.1⟩:Qdt)]):List Qdt).map Qdj)
theorem Qs3 (N:Nat) (p0:GNet) (p1:List Int) (p2:List (List Qaa)) (r:((List Qdt)×Bool)) (h:Qi3 N p0 p1 p2=some r):Spec prog 78 [(.agg (Qgw p0)),(.dat 1 (p1.map Qac)),(.dat 1 (p2.map Qag))] [] (.tup [(.dat 1 (r.1.map Qdj)),(B r.2)]) []:=by
  refine sA func78 0 fun _ _ _ hq hd0=>?_
  unfold Qi3 at h
  refine wxz<|wxz ?_
  obtain⟨k2,hk_k2,h⟩:=jko h
  refine wjn (τ:=(List Qdt)) (fun t=>k2 t=some r) (fun y1=>⟨mk 34 [(8,(.acc 0 136 1 (y1.map Qdj)))],[.tok]⟩) (fun y1 h=>?_) ?_
  ·subst hk_k2
   refine wxz<|Qai ?_
   obtain rfl:=osi h
   exact fie [(.dat 1 (y1.map Qdj)),B true] ⟨Qbz (v:=(.acc 0 136 1 (y1.map Qdj))) rot Less.acc,rot,tv⟩
  ·skip
   refine wx tbk [(1,rp _ _)] ⟨alq 1 Qag p2 underlying31,tv⟩<|Qao ?_
   refine wmr (Mor.trans (Qpe 1 136 1 8 (by kernel_rfl) (by kernel_rfl)) (mto (n:=34) (l':=[(1,(.dat 1 (p1.map Qac))),(3,.ref 0 2 0 0),(8,(.acc 1 136 1 ((([]):List Qdt).map Qdj))),(13,(Qom p2)),(14,(I ((p2.length:Int)))),(15,I 0)]) (own':=[(Qon p0),.tok]) [(1,(.dat 1 (p1.map Qac))),(3,.ref 0 2 0 0),(8,(.acc 1 136 1 (([]:List Qdt).map Qdj))),(13,(Qom p2)),(14,(I ((p2.length:Int)))),(15,I 0)] [0,1] [(Qon p0),.tok] hq (pc (rnd Qah) (prr (pc (.rn (Qa3 rfl (Qay Qh9 _))) (pc (rnd Qak) (pw (pw pn)))))) (qb (lc (rnd Qan) (lc (rnd Qab) ln)) (qc .tok qn)))) ?_
   refine Qbl (τ:=(List Qdt)×Int) (fun n t=>Qdf N p0 p1 k2 p2 n t.1 t.2=some r) (fun ⟨y3,y4⟩=>⟨mk 34 [(1,(.dat 1 (p1.map Qac))),(3,.ref 0 2 0 0),(8,(Ql5 y3)),(13,(Qom p2)),(14,(I ((p2.length:Int)))),(15,I y4)],[(Qon p0),.tok]⟩) (fun t h=>by rw[Qdf] at h;cases h) (fun n7 ih t h=>?_) N ([],0) h
   obtain⟨y3,y4⟩:=t
   rw[Qdf] at h
   skip
   refine wxz<|wsq ?_
   refine bfe h (fun hc8 h=>?_) fun hc8 h=>?_
   ·refine wft hc8<|Qam<|thn<|wsq<|Qao ?_
    obtain⟨x9,hg10,h⟩:=bno h
    obtain⟨hi11,hj12⟩:=gsm hg10
    refine wx tbk [(0,rp _ _)] ⟨aiq underlying31 ti45 Qag hi11 hj12,tv⟩ ?_
    obtain⟨x14,hf13,h⟩:=bno h
    rcases x14 with x15 |x17
    ·replace h:=Zmq h
     refine wx tbk [(3,⟨_,_,_,_,false⟩)] ⟨acq [(Qp9 p0),(.dat 1 (p1.map Qac)),(Qdq x9)] [] [Zqm,(.own 1 [[I x15]])] (.tup [(.lit (.pointer none)),I x15]) [2,3] Qz8 (Qmz N p0 p1 x9 _ hf13) (Qbr (rnc (.plain _ (NLt.agg _ (nlc (nld Qan _) (nlc (nld Qab _) nl0)))) (rnc (pld Qah) (rnc (pld Qal) rn0)))) Qas (slc (Qaq (rnc (.plain _ nll) rn0)) (slc (Qaq (rnc (.plain _ nll) rn0)) Qas)) (.plain _ (NLt.tup _ (nlcc nl0))),tv⟩<|wsq<|wxz ?_
     refine bfe h (fun hc16 h=>?_) fun hc16 h=>?_
     ·refine wft hc16<|wxz<|Qai<|Qaj<|Qar<|Qaj<|Qaj<|Qar<|Qaj ?_
      obtain rfl:=osi h
      exact fie [Zbh,B false] ⟨Qbz (v:=nilS) rot Less.nil,rot,tv⟩
     ·refine wfn hc16<|Qam<|thn ?_
      cases h
    ·replace h:=Zmp h
     refine wx tbk [(3,⟨_,_,_,_,false⟩)] ⟨acq [(Qp9 p0),(.dat 1 (p1.map Qac)),(Qdq x9)] [] [Qox,(.own 1 [[I x17.1]]),(Zbk p0 p1 x9 x17),(.own 1 (x17.2.2.1.map Qag)),(.own 4 (x17.2.2.2.1.map Qat)),(Qsr x17)] (.tup [.ref 4 7 0 0,I x17.1]) [2,3,4,5,6,7] Qz8 (Qmy N p0 p1 x9 _ hf13) (Qbr (rnc (.plain _ (NLt.agg _ (nlc (nld Qan _) (nlc (nld Qab _) nl0)))) (rnc (pld Qah) (rnc (pld Qal) rn0)))) Qas (slc (Qaq (rnc (Qbb rfl) rn0)) (slc (Qaq (rnc (.plain _ nll) rn0)) (slc (Qaq (rnc (pld Qan) (rnc (pld Qab) (rnc (Qcz rfl) (rnc (Qcz rfl) (rnc (Qcz rfl) (rnc (pld Qal) (rnc (.plain _ nll) rn0)))))))) (slc (Qba Qak) (slc (Qba Qa2) (slc (Qba Qah) Qas)))))) (Zk3 (rnc (Qbb rfl) (rnc (.plain _ nll) rn0))),tv⟩<|wsq<|wxz ?_
     refine bfe h (fun hc18 h=>?_) fun hc18 h=>?_
     ·refine wft hc18<|wxz<|Qai<|Qaj<|Qar<|Qaj<|Qaj<|Qar<|Qaj ?_
      obtain rfl:=osi h
      exact fie [Zbh,B false] ⟨Qbz (v:=nilS) rot Less.nil,rot,tv⟩
     ·refine wfn hc18<|Qam<|thn ?_
      obtain⟨hz19,h⟩:=cko h
      refine wmr (Qzs [(Qon p0),.tok,Qox,(.own 1 [[I x17.1]]),(Zbk p0 p1 x9 x17),(.own 1 (x17.2.2.1.map Qag)),(.own 4 (x17.2.2.2.1.map Qat)),(Qsr x17)] (Qzt (n:=34) (m:=1) (xs:=x17.2.2.1.map Qag) (l':=[(1,(.dat 1 (p1.map Qac))),(3,.ref 0 2 0 0),(8,(Ql5 y3)),(10,(Qdq x9)),(11,.ref 4 7 0 0),(12,I x17.1),(13,(Qom p2)),(14,(I ((p2.length:Int)))),(15,I y4),(16,(B ((decide (y4<(p2.length:Int)))))),(17,(.dptr (Qag x9) 0)),(18,(Qdq x9)),(19,(.tup [.ref 4 7 0 0,I x17.1])),(20,(Qp9 p0)),(21,(.dat 1 (p1.map Qac))),(22,(Qdq x9)),(23,(.tup [.ref 4 7 0 0,I x17.1])),(24,.ref 4 7 0 0),(25,I x17.1),(26,I x17.1),(27,(B ((decide (x17.1≥0)))))]) (own':=[(Qon p0),.tok,Qox,(.own 1 [[I x17.1]]),(.own 7 [[(Qqb p0),(Qqa p0),(Qqj x17 p0),(.own 6 4 (0) ((p0.Elements.length:Int).toNat)),(.own 7 1 (0) p1.length),(Qdq x9),I x17.2.1]]),.dead,(.own 4 (x17.2.2.2.1.map Qat)),(Qsr x17)]) 5 [(1,(.dat 1 (p1.map Qac))),(3,.ref 0 2 0 0),(8,(Ql5 y3)),(10,(Qdq x9)),(11,.ref 4 7 0 0),(12,I x17.1),(13,(Qom p2)),(14,(I ((p2.length:Int)))),(15,I y4),(16,(B ((decide (y4<(p2.length:Int)))))),(17,(.dptr (Qag x9) 0)),(18,(Qdq x9)),(19,(.tup [.ref 4 7 0 0,I x17.1])),(20,(Qp9 p0)),(21,(.dat 1 (p1.map Qac))),(22,(Qdq x9)),(23,(.tup [.ref 4 7 0 0,I x17.1])),(24,.ref 4 7 0 0),(25,I x17.1),(26,I x17.1),(27,(B ((decide (x17.1≥0)))))] (by kernel_rfl) (by kernel_rfl) (by kernel_rfl) ⟨rfl,(.same _),rfl,(.same _),rfl,(.same _),rfl,(.same _),rfl,(.same _),rfl,(.same _),rfl,(.same _),rfl,(.same _),rfl,(.same _),rfl,(.same _),rfl,(.same _),rfl,(.same _),rfl,(.same _),rfl,(.same _),rfl,(.same _),rfl,(.same _),rfl,(.same _),rfl,(.same _),rfl,(.same _),rfl,(.same _),rfl,(.same _),tv⟩ (qc Qdh (qc Qdh (qc Qdh (qc Qdh (qc (Quo (lc (.same _) (lc (.same _) (lc (Qlr hz19) (lc (.same _) (lc (.same _) (lc (.same _) (lc (.same _) ln)))))))) (qc .dead (qc Qdh (qc Qdh qn)))))))))) ?_
      obtain⟨hz20,h⟩:=cko h
      refine wmr (Qzs [(Qon p0),.tok,Qox,(.own 1 [[I x17.1]]),(.own 7 [[(Qqb p0),(Qqa p0),(Qqj x17 p0),(.own 6 4 (0) ((p0.Elements.length:Int).toNat)),(.own 7 1 (0) p1.length),(Qdq x9),I x17.2.1]]),.dead,(.own 4 (x17.2.2.2.1.map Qat)),(Qsr x17)] (Qzt (n:=34) (m:=4) (xs:=x17.2.2.2.1.map Qat) (l':=[(1,(.dat 1 (p1.map Qac))),(3,.ref 0 2 0 0),(8,(Ql5 y3)),(10,(Qdq x9)),(11,.ref 4 7 0 0),(12,I x17.1),(13,(Qom p2)),(14,(I ((p2.length:Int)))),(15,I y4),(16,(B ((decide (y4<(p2.length:Int)))))),(17,(.dptr (Qag x9) 0)),(18,(Qdq x9)),(19,(.tup [.ref 4 7 0 0,I x17.1])),(20,(Qp9 p0)),(21,(.dat 1 (p1.map Qac))),(22,(Qdq x9)),(23,(.tup [.ref 4 7 0 0,I x17.1])),(24,.ref 4 7 0 0),(25,I x17.1),(26,I x17.1),(27,(B ((decide (x17.1≥0)))))]) (own':=[(Qon p0),.tok,Qox,(.own 1 [[I x17.1]]),(.own 7 [[(Qqb p0),(Qqa p0),(Qqj x17 p0),(Qu9 x17 p0),(.own 7 1 (0) p1.length),(Qdq x9),I x17.2.1]]),.dead,.dead,(Qsr x17)]) 6 [(1,(.dat 1 (p1.map Qac))),(3,.ref 0 2 0 0),(8,(Ql5 y3)),(10,(Qdq x9)),(11,.ref 4 7 0 0),(12,I x17.1),(13,(Qom p2)),(14,(I ((p2.length:Int)))),(15,I y4),(16,(B ((decide (y4<(p2.length:Int)))))),(17,(.dptr (Qag x9) 0)),(18,(Qdq x9)),(19,(.tup [.ref 4 7 0 0,I x17.1])),(20,(Qp9 p0)),(21,(.dat 1 (p1.map Qac))),(22,(Qdq x9)),(23,(.tup [.ref 4 7 0 0,I x17.1])),(24,.ref 4 7 0 0),(25,I x17.1),(26,I x17.1),(27,(B ((decide (x17.1≥0)))))] (by kernel_rfl) (by kernel_rfl) (by kernel_rfl) ⟨rfl,(.same _),rfl,(.same _),rfl,(.same _),rfl,(.same _),rfl,(.same _),rfl,(.same _),rfl,(.same _),rfl,(.same _),rfl,(.same _),rfl,(.same _),rfl,(.same _),rfl,(.same _),rfl,(.same _),rfl,(.same _),rfl,(.same _),rfl,(.same _),rfl,(.same _),rfl,(.same _),rfl,(.same _),rfl,(.same _),rfl,(.same _),tv⟩ (qc Qdh (qc Qdh (qc Qdh (qc Qdh (qc (Quo (lc (.same _) (lc (.same _) (lc (.same _) (lc (Qlr hz20) (lc (.same _) (lc (.same _) (lc (.same _) ln)))))))) (qc Qdh (qc .dead (qc Qdh qn)))))))))) ?_
      obtain⟨hz21,h⟩:=cko h
      refine wmr (Qzs [(Qon p0),.tok,Qox,(.own 1 [[I x17.1]]),(.own 7 [[(Qqb p0),(Qqa p0),(Qqj x17 p0),(Qu9 x17 p0),(.own 7 1 (0) p1.length),(Qdq x9),I x17.2.1]]),.dead,.dead,(Qsr x17)] (Qzt (n:=34) (m:=1) (xs:=x17.2.2.2.2.map Qac) (l':=[(1,(.dat 1 (p1.map Qac))),(3,.ref 0 2 0 0),(8,(Ql5 y3)),(10,(Qdq x9)),(11,.ref 4 7 0 0),(12,I x17.1),(13,(Qom p2)),(14,(I ((p2.length:Int)))),(15,I y4),(16,(B ((decide (y4<(p2.length:Int)))))),(17,(.dptr (Qag x9) 0)),(18,(Qdq x9)),(19,(.tup [.ref 4 7 0 0,I x17.1])),(20,(Qp9 p0)),(21,(.dat 1 (p1.map Qac))),(22,(Qdq x9)),(23,(.tup [.ref 4 7 0 0,I x17.1])),(24,.ref 4 7 0 0),(25,I x17.1),(26,I x17.1),(27,(B ((decide (x17.1≥0)))))]) (own':=[(Qon p0),.tok,Qox,(.own 1 [[I x17.1]]),(.own 7 [[(Qqb p0),(Qqa p0),(Qqj x17 p0),(Qu9 x17 p0),(.dat 1 ((x17.2.2.2.2.take p1.length:List Int).map Qac)),(Qdq x9),I x17.2.1]]),.dead,.dead,.dead]) 7 [(1,(.dat 1 (p1.map Qac))),(3,.ref 0 2 0 0),(8,(Ql5 y3)),(10,(Qdq x9)),(11,.ref 4 7 0 0),(12,I x17.1),(13,(Qom p2)),(14,(I ((p2.length:Int)))),(15,I y4),(16,(B ((decide (y4<(p2.length:Int)))))),(17,(.dptr (Qag x9) 0)),(18,(Qdq x9)),(19,(.tup [.ref 4 7 0 0,I x17.1])),(20,(Qp9 p0)),(21,(.dat 1 (p1.map Qac))),(22,(Qdq x9)),(23,(.tup [.ref 4 7 0 0,I x17.1])),(24,.ref 4 7 0 0),(25,I x17.1),(26,I x17.1),(27,(B ((decide (x17.1≥0)))))] (by kernel_rfl) (by kernel_rfl) (by kernel_rfl) ⟨rfl,(.same _),rfl,(.same _),rfl,(.same _),rfl,(.same _),rfl,(.same _),rfl,(.same _),rfl,(.same _),rfl,(.same _),rfl,(.same _),rfl,(.same _),rfl,(.same _),rfl,(.same _),rfl,(.same _),rfl,(.same _),rfl,(.same _),rfl,(.same _),rfl,(.same _),rfl,(.same _),rfl,(.same _),rfl,(.same _),rfl,(.same _),tv⟩ (qc Qdh (qc Qdh (qc Qdh (qc Qdh (qc (Quo (lc (.same _) (lc (.same _) (lc (.same _) (lc (.same _) (lc (Qlr hz21) (lc (.same _) (lc (.same _) ln)))))))) (qc Qdh (qc Qdh (qc .dead qn)))))))))) ?_
      refine wmr (Qzs [(Qon p0),.tok,Qox,(.own 1 [[I x17.1]]),(.own 7 [[(Qqb p0),(Qqa p0),(Qqj x17 p0),(Qu9 x17 p0),(.dat 1 ((x17.2.2.2.2.take p1.length:List Int).map Qac)),(Qdq x9),I x17.2.1]]),.dead,.dead,.dead] (Qzt (n:=34) (m:=7) (xs:=[[(Qqb p0),(Qqa p0),(Qqj x17 p0),(Qu9 x17 p0),(.dat 1 ((x17.2.2.2.2.take p1.length:List Int).map Qac)),(Qdq x9),I x17.2.1]]) (l':=[(1,(.dat 1 (p1.map Qac))),(3,.ref 0 2 0 0),(8,(Ql5 y3)),(10,(Qdq x9)),(11,(.dptr (Qkm (⟨p0,(⟨x17.2.2.1.take ((p0.Elements.length:Int).toNat),x17.2.2.2.1.take ((p0.Elements.length:Int).toNat),x17.2.2.2.2.take p1.length⟩:Qe5),x9,x17.2.1⟩:Qdt)) 0)),(12,I x17.1),(13,(Qom p2)),(14,(I ((p2.length:Int)))),(15,I y4),(16,(B ((decide (y4<(p2.length:Int)))))),(17,(.dptr (Qag x9) 0)),(18,(Qdq x9)),(19,.any),(20,(Qp9 p0)),(21,(.dat 1 (p1.map Qac))),(22,(Qdq x9)),(23,.any),(24,(.dptr (Qkm (⟨p0,(⟨x17.2.2.1.take ((p0.Elements.length:Int).toNat),x17.2.2.2.1.take ((p0.Elements.length:Int).toNat),x17.2.2.2.2.take p1.length⟩:Qe5),x9,x17.2.1⟩:Qdt)) 0)),(25,I x17.1),(26,I x17.1),(27,(B ((decide (x17.1≥0)))))]) (own':=[(Qon p0),.tok,(.own 1 [[(.dptr (Qkm (⟨p0,(⟨x17.2.2.1.take ((p0.Elements.length:Int).toNat),x17.2.2.2.1.take ((p0.Elements.length:Int).toNat),x17.2.2.2.2.take p1.length⟩:Qe5),x9,x17.2.1⟩:Qdt)) 0)]]),(.own 1 [[I x17.1]]),.dead,.dead,.dead,.dead]) 4 [(1,(.dat 1 (p1.map Qac))),(3,.ref 0 2 0 0),(8,(Ql5 y3)),(10,(Qdq x9)),(11,.ref 4 7 0 0),(12,I x17.1),(13,(Qom p2)),(14,(I ((p2.length:Int)))),(15,I y4),(16,(B ((decide (y4<(p2.length:Int)))))),(17,(.dptr (Qag x9) 0)),(18,(Qdq x9)),(19,(.tup [.ref 4 7 0 0,I x17.1])),(20,(Qp9 p0)),(21,(.dat 1 (p1.map Qac))),(22,(Qdq x9)),(23,(.tup [.ref 4 7 0 0,I x17.1])),(24,.ref 4 7 0 0),(25,I x17.1),(26,I x17.1),(27,(B ((decide (x17.1≥0)))))] (by kernel_rfl) (by kernel_rfl) (by kernel_rfl) ⟨rfl,(.same _),rfl,(.same _),rfl,(.same _),rfl,(.same _),rfl,(.ptr _ _ rfl),rfl,(.same _),rfl,(.same _),rfl,(.same _),rfl,(.same _),rfl,(.same _),rfl,(.same _),rfl,(.same _),rfl,(.any _),rfl,(.same _),rfl,(.same _),rfl,(.same _),rfl,(.any _),rfl,(.ptr _ _ rfl),rfl,(.same _),rfl,(.same _),rfl,(.same _),tv⟩ (qc Qdh (qc Qdh (qc (Quo (lc (.ptr _ _ rfl) ln)) (qc Qdh (qc .dead (qc Qdh (qc Qdh (qc Qdh qn)))))))))) ?_
      obtain⟨ha22,h⟩:=cko h
      refine wx1 tbk [(2,rp [(.tmp 29,(.dptr (Qkm (⟨p0,(⟨x17.2.2.1.take ((p0.Elements.length:Int).toNat),x17.2.2.2.1.take ((p0.Elements.length:Int).toNat),x17.2.2.2.2.take p1.length⟩:Qe5),x9,x17.2.1⟩:Qdt)) 0))] (Zbj p0 x17 p1 x9)),(3,⟨[(.tmp 28,(Ql5 y3)),(.tmp 30,(Zbj p0 x17 p1 x9))],[(1,.tok),(8,.unused)],(Zbi y3 p0 x17 p1 x9),[(1,.dead),(8,.tok)],false⟩)] ⟨Qbm (vs:=[(.dptr (Qkm (⟨p0,(⟨x17.2.2.1.take ((p0.Elements.length:Int).toNat),x17.2.2.2.1.take ((p0.Elements.length:Int).toNat),x17.2.2.2.2.take p1.length⟩:Qe5),x9,x17.2.1⟩:Qdt)) 0)]) rfl underlying168 Qpz Zq3 rfl (by decide) rfl (by decide) (by rfl) (by rfl) (by rfl) rfl,Qc7 rfl underlying168 Ztj (Base.acc _ _) rfl rfl (by rfl) (Qf7 Qdj ha22) (Qf6 Qdj ha22 (by decide)) (Qf5 Qdj) rfl rfl,tv⟩<|bln<|thn<|wxz1<|thn ?_
      exact arm (mto (n:=34) [(1,(.dat 1 (p1.map Qac))),(3,.ref 0 2 0 0),(8,(Zbi y3 p0 x17 p1 x9)),(13,(Qom p2)),(14,(I ((p2.length:Int)))),(15,(I (w64 (y4+1))))] [0,8] [(Qon p0),.tok] hq (pc (rnd Qah) (prr (pc (.rn (Qa3 rfl (Qay Qh9 _))) (pc (rnd Qak) (pw (pw pn)))))) (qb (lc (rnd Qan) (lc (rnd Qab) ln)) (qc .tok qn))) (ih (y3++([(⟨p0,(⟨x17.2.2.1.take ((p0.Elements.length:Int).toNat),x17.2.2.2.1.take ((p0.Elements.length:Int).toNat),x17.2.2.2.2.take p1.length⟩:Qe5),x9,x17.2.1⟩:Qdt)]),w64 (y4+1)) h)
   ·exact wfn hc8<|Qa7<|Qau<|Qau<|Qa6 rfl<|thn<|⟨(y3),h,(mto (n:=34) [(8,(Ql5 y3))] [1] [.tok] hq (pc (.rn (Qa3 rfl (Qay Qh9 _))) pn) (qc .tok qn))⟩
def Qez (N:Nat) (y2:Int) (k6:Unit→Option (Int×Int)) (x7:Qdt):Nat→Int→Option (Int×Int)
  |0,_=>none
  |n13+1,y11=>
    bif (decide (y11<(x7.Tick.Lost.length:Int))) then
     (getI x7.Tick.Lost y11).bind fun x15=>
     bif (decide (x15.Scale>0)) then
      some (y2,y11)
     else
      Qez N y2 k6 x7 n13 (w64 (y11+1))
    else
     k6 ()
def Qe0 (N:Nat) (p0:List Qdt) (k1:Unit→Option (Int×Int)):Nat→Int→Option (Int×Int)
  |0,_=>none
  |n4+1,y2=>
    bif (decide (y2<(p0.length:Int))) then
     Qbc (fun _=>
       Qe0 N p0 k1 n4 (w64 (y2+1))) fun k6:Unit→Option (Int×Int)=>
     (getI p0 y2).bind fun x7=>
     Qez N y2 k6 x7 N 0
    else
     k1 ()
def Qlc (N:Nat) (p0:List Qdt):Option (Int×Int):=
  Qbc (fun _=>
    some ((-1),(-1))) fun k1:Unit→Option (Int×Int)=>
  Qe0 N p0 k1 N 0
def Qp8 (p0:List Qdt):AV:=.dat 1 (p0.map Qdj)
def Qy1 (x7:Qdt):AV:=.dat 4 (x7.Tick.Lost.map Qat)
theorem Qvy (N:Nat) (p0:List Qdt) (r:(Int×Int)) (h:Qlc N p0=some r):Spec prog 86 [(.dat 1 (p0.map Qdj))] [] (.tup [(I r.1),(I r.2)]) []:=by
  refine sA func86 0 fun _ _ _ hq hd0=>?_
  unfold Qlc at h
  refine wxz ?_
  obtain⟨k1,hk_k1,h⟩:=jko h
  refine wjn (τ:=Unit) (fun t=>k1 t=some r) (fun _=>⟨mk 33 [],[]⟩) (fun t h=>?_) ?_
  ·subst hk_k1
   refine wxz<|Qai ?_
   obtain rfl:=osi h
   exact fie [(I ((-1))),(I ((-1)))] ⟨rot,rot,tv⟩
  ·skip
   refine wx tbk [(1,rp _ _)] ⟨alq 1 Qdj p0 underlying168,tv⟩<|Qao ?_
   refine wmr (mto (n:=33) (l':=[(8,(Qp8 p0)),(9,(I ((p0.length:Int)))),(10,I 0)]) (own':=[]) [(8,(Qp8 p0)),(9,(I ((p0.length:Int)))),(10,I 0)] [] [] hq (pc (rnd Qh9) (pw (pw pn))) qn) ?_
   refine Qbl (τ:=Int) (fun n t=>Qe0 N p0 k1 n t=some r) (fun y2=>⟨mk 33 [(8,(Qp8 p0)),(9,(I ((p0.length:Int)))),(10,I y2)],[]⟩) (fun t h=>by rw[Qe0] at h;cases h) (fun n4 ih y2 h=>?_) N (0) h
   rw[Qe0] at h
   skip
   refine wxz<|wsq ?_
   refine bfe h (fun hc5 h=>?_) fun hc5 h=>?_
   ·refine wft hc5<|Qam<|thn ?_
    obtain⟨k6,hk_k6,h⟩:=jko h
    refine wjn (τ:=Unit) (fun t=>k6 t=some r) (fun _=>⟨mk 33 [(8,(Qp8 p0)),(9,(I ((p0.length:Int)))),(10,I y2)],[]⟩) (fun t h=>?_) ?_
    ·subst hk_k6
     exact wxz1<|thn<|arm (mto (n:=33) [(8,(Qp8 p0)),(9,(I ((p0.length:Int)))),(10,(I (w64 (y2+1))))] [] [] hq (pc (rnd Qh9) (pw (pw pn))) qn) (ih (w64 (y2+1)) h)
    ·skip
     refine Qao ?_
     obtain⟨x7,hg8,h⟩:=bno h
     obtain⟨hi9,hj10⟩:=gsm hg8
     refine wx tbk [(1,rp _ _)] ⟨aiq underlying168 Qpz Qdj hi9 hj10,tv⟩ ?_
     refine wx tbk [(5,rp _ _)] ⟨alq 4 Qat x7.Tick.Lost underlying32,tv⟩<|Qao ?_
     refine wmr (mto (n:=33) (l':=[(4,I y2),(8,(Qp8 p0)),(9,(I ((p0.length:Int)))),(10,I y2),(19,(Qy1 x7)),(20,(I ((x7.Tick.Lost.length:Int)))),(21,I 0)]) (own':=[]) [(4,I y2),(8,(Qp8 p0)),(9,(I ((p0.length:Int)))),(10,I y2),(19,(Qy1 x7)),(20,(I ((x7.Tick.Lost.length:Int)))),(21,I 0)] [] [] hq (pw (pc (rnd Qh9) (pw (pw (pc (rnd Qa2) (pw (pw pn))))))) qn) ?_
     refine Qbl (τ:=Int) (fun n t=>Qez N y2 k6 x7 n t=some r) (fun y11=>⟨mk 33 [(4,I y2),(8,(Qp8 p0)),(9,(I ((p0.length:Int)))),(10,I y2),(19,(Qy1 x7)),(20,(I ((x7.Tick.Lost.length:Int)))),(21,I y11)],[]⟩) (fun t h=>by rw[Qez] at h;cases h) (fun n13 ih y11 h=>?_) N (0) h
     rw[Qez] at h
     skip
     refine wxz<|wsq ?_
     refine bfe h (fun hc14 h=>?_) fun hc14 h=>?_
     ·refine wft hc14<|Qam<|thn<|wsq<|Qao ?_
      obtain⟨x15,hg16,h⟩:=bno h
      obtain⟨hi17,hj18⟩:=gsm hg16
      refine wx tbk [(1,rp _ _)] ⟨aiq underlying32 ti82 Qat hi17 hj18,tv⟩<|wxz ?_
      refine bfe h (fun hc19 h=>?_) fun hc19 h=>?_
      ·refine wft hc19<|wxz<|Qai<|Qar<|Qaj<|Qaj<|Qar<|Qar<|Qaj<|Qaj ?_
       refine Qar<|Qaj ?_
       obtain rfl:=osi h
       exact fie [I y2,I y11] ⟨rot,rot,tv⟩
      ·exact wfn hc19<|Qam<|bln<|thn<|wxz1<|thn<|arm (mto (n:=33) [(4,I y2),(8,(Qp8 p0)),(9,(I ((p0.length:Int)))),(10,I y2),(19,(Qy1 x7)),(20,(I ((x7.Tick.Lost.length:Int)))),(21,(I (w64 (y11+1))))] [] [] hq (pw (pc (rnd Qh9) (pw (pw (pc (rnd Qa2) (pw (pw pn))))))) qn) (ih (w64 (y11+1)) h)
     ·exact wfn hc14<|Qa7<|Qau<|Qau<|Qa6 rfl<|bln<|thn<|⟨(),h,(mto (n:=33) [(8,(Qp8 p0)),(9,(I ((p0.length:Int)))),(10,I y2)] [] [] hq (pc (rnd Qh9) (pw (pw pn))) qn)⟩
   ·exact wfn hc5<|Qa7<|Qau<|Qau<|Qa6 rfl<|thn<|⟨(),h,(mto (n:=33) [] [] [] hq pn qn)⟩
def Qdb (N:Nat) (p0:GNet) (p1:List (List Qaa)) (k2:Unit→Option Int):Nat→Int→Option Int
  |0,_=>none
  |n5+1,y3=>
    bif (decide (y3<(p1.length:Int))) then
     (getI p1 y3).bind fun x7=>
     (Qh7 N p0 x7).bind fun x12=>
     bif (x12 != 0) then
      some x12
     else
      Qdb N p0 p1 k2 n5 (w64 (y3+1))
    else
     k2 ()
def Qip (N:Nat) (p0:GNet) (p1:List (List Qaa)):Option Int:=
  Qbc (fun _=>
    Qbc (fun _=>
      some 0) fun k2:Unit→Option Int=>
    Qdb N p0 p1 k2 N 0) fun k1:Unit→Option Int=>
  bif (decide ((p1.length:Int)<1)) then
   some 3
  else
   bif (decide ((p1.length:Int)>6)) then
    some 3
   else
    k1 ()
def Qu8 (p1:List (List Qaa)):AV:=.dat 1 (p1.map Qag)
def Zqk (p0:GNet):AV:=.dat 7 (p0.Elements.map Qae)
def Qxp (p0:GNet):Slot:=.own 2 [[(.dat 5 (p0.Table.map Qap)),(Zqk p0)]]
theorem Qp2 (N:Nat) (p0:GNet) (p1:List (List Qaa)) (r:Int) (h:Qip N p0 p1=some r):Spec prog 87 [(.agg (Qgw p0)),(.dat 1 (p1.map Qag))] [] (I r) []:=by
  refine sA func87 0 fun _ _ _ hq hd0=>?_
  unfold Qip at h
  refine wxz ?_
  obtain⟨k1,hk_k1,h⟩:=jko h
  refine wjn (τ:=Unit) (fun t=>k1 t=some r) (fun _=>⟨mk 30 [(1,(Qu8 p1)),(2,.ref 0 2 0 0)],[(Qxp p0)]⟩) (fun t h=>?_) ?_
  ·subst hk_k1
   obtain⟨k2,hk_k2,h⟩:=jko h
   refine wjn (τ:=Unit) (fun t=>k2 t=some r) (fun _=>⟨mk 30 [],[]⟩) (fun t h=>?_) ?_
   ·subst hk_k2
    refine wxz<|Qai ?_
    obtain rfl:=osi h
    exact fend ⟨[I 0],⟨rot,tv⟩,rfl⟩ nll
   ·skip
    refine wxz<|Qao ?_
    refine wmr (mto (n:=30) (l':=[(1,(Qu8 p1)),(2,.ref 0 2 0 0),(5,I 0)]) (own':=[(Qxp p0)]) [(1,(Qu8 p1)),(2,.ref 0 2 0 0),(5,I 0)] [0] [(Qxp p0)] hq (pc (rnd Qak) (prr (pw pn))) (qb (lc (rnd Qan) (lc (rnd Qab) ln)) qn)) ?_
    refine Qbl (τ:=Int) (fun n t=>Qdb N p0 p1 k2 n t=some r) (fun y3=>⟨mk 30 [(1,(Qu8 p1)),(2,.ref 0 2 0 0),(5,I y3)],[(Qxp p0)]⟩) (fun t h=>by rw[Qdb] at h;cases h) (fun n5 ih y3 h=>?_) N (0) h
    rw[Qdb] at h
    skip
    refine wsq<|wx tbk [(2,rp _ _)] ⟨alq 1 Qag p1 underlying49,tv⟩ ?_
    refine bfe h (fun hc6 h=>?_) fun hc6 h=>?_
    ·refine wft hc6<|Qam<|thn<|wsq<|Qao ?_
     obtain⟨x7,hg8,h⟩:=bno h
     obtain⟨hi9,hj10⟩:=gsm hg8
     obtain⟨x12,hf11,h⟩:=bno h
     refine wxd tbk [(3,rp _ _),(5,rp _ _)] ⟨aiq underlying49 ti28 Qag hi9 hj10,apw Zn4 (Qqt N p0 x7 _ hf11),tv⟩<|wxz ?_
     refine bfe h (fun hc13 h=>?_) fun hc13 h=>?_
     ·refine wft hc13<|wxz<|Qai<|Qar<|Qaj<|Qaj<|Qar<|Qaj ?_
      obtain rfl:=osi h
      exact fend ⟨[I x12],⟨rot,tv⟩,rfl⟩ nll
     ·exact wfn hc13<|Qam<|bln<|thn<|wxz1<|thn<|arm (mto (n:=30) [(1,(Qu8 p1)),(2,.ref 0 2 0 0),(5,(I (w64 (y3+1))))] [0] [(Qxp p0)] hq (pc (rnd Qak) (prr (pw pn))) (qb (lc (rnd Qan) (lc (rnd Qab) ln)) qn)) (ih (w64 (y3+1)) h)
    ·exact wfn hc6<|Qa7<|Qau<|Qau<|Qa6 rfl<|thn<|⟨(),h,(mto (n:=30) [] [] [] hq pn qn)⟩
  ·skip
   refine bfe h (fun hb14 h=>?_) fun hb14 h=>?_
   ·refine wx tbk [(1,rp _ _),(3,rp [(.tmp 9,(B ((decide ((p1.length:Int)<1)))))] (B true))] ⟨alq 1 Qag p1 underlying49,asb hb14 (amv rfl),tv⟩<|wtr<|wxz<|Qai<|Qaj ?_
    obtain rfl:=osi h
    exact fend ⟨[I 3],⟨rot,tv⟩,rfl⟩ nll
   ·refine wx tbk [(1,rp _ _),(3,rp [(.tmp 9,(B ((decide ((p1.length:Int)<1)))))] (B false)),(5,rp [(.tmp 10,B false),(.tmp 11,(Qu8 p1))] (I ((p1.length:Int))))] ⟨alq 1 Qag p1 underlying49,asb hb14 (amv rfl),ag_ (alq 1 Qag p1 underlying49),tv⟩ ?_
    refine bfe h (fun hc15 h=>?_) fun hc15 h=>?_
    ·refine wft hc15<|wxz<|Qai<|Qaj ?_
     obtain rfl:=osi h
     exact fend ⟨[I 3],⟨rot,tv⟩,rfl⟩ nll
    ·exact wfn hc15<|Qam<|thn<|⟨(),h,(mto (n:=30) [(1,(Qu8 p1)),(2,.ref 0 2 0 0)] [0] [(Qxp p0)] hq (pc (rnd Qak) (prr pn)) (qb (lc (rnd Qan) (lc (rnd Qab) ln)) qn))⟩
def Qj6 (N:Nat) (p0:GNet) (p1:List Int) (p2:List (List Qaa)):Option Int:=
  (Qjh N p0).bind fun x2=>
  bif (!x2) then
   some 1
  else
   (Qhn N p0 p1).bind fun x5=>
   bif (!x5) then
    some 1
   else
    (Qip N p0 p2).bind fun x8=>
    some x8
def Zkr (p0:GNet):AV:=.agg [(.dat 5 (p0.Table.map Qap)),(.dat 7 (p0.Elements.map Qae))]
def Zbg (p0:GNet) (x2:Bool):List (Nat×Rec):=[(1,rp [fu 28,((.tmp 7),(Zkr p0))] (B x2))]
theorem Qui (N:Nat) (p0:GNet) (p1:List Int) (p2:List (List Qaa)) (r:Int) (h:Qj6 N p0 p1 p2=some r):Spec prog 43 [(.agg (Qgw p0)),(.dat 1 (p1.map Qac)),(.dat 1 (p2.map Qag))] [] (I r) []:=by
  refine sA func43 0 fun _ _ _ hq hd0=>?_
  unfold Qj6 at h
  refine wxz<|wsq ?_
  obtain⟨x2,hf1,h⟩:=bno h
  refine hpre (A:=(Zbg p0 x2)) ⟨apv Zeh (Qo7 N p0 _ hf1) (nlc (NLt.agg _ (nlc (nld Qan _) (nlc (nld Qab _) nl0))) nl0) nll,tv⟩ fun q1_=>?_
  refine bfe h (fun hb3 h=>?_) fun hb3 h=>?_
  ·refine wx tbk (hcat (Zbg p0 x2) [(3,rp [(.tmp 9,(B ((!x2))))] (B true))]) (hap q1_ ⟨asb hb3 (amv rfl),tv⟩)<|wtr<|wxz<|Qai<|Qaj ?_
   obtain rfl:=osi h
   exact fend ⟨[I 1],⟨rot,tv⟩,rfl⟩ nll
  ·obtain⟨x5,hf4,h⟩:=bno h
   refine wx tbk (hcat (Zbg p0 x2) [(3,rp [(.tmp 9,(B ((!x2))))] (B false)),(6,rp [(.tmp 10,B false),fu 33,(.tmp 11,(Zkr p0)),(.tmp 12,(.dat 1 (p1.map Qac)))] (B x5))]) (hap q1_ ⟨asb hb3 (amv rfl),ag_ (apv Zoi (Qp1 N p0 p1 _ hf4) (nlc (NLt.agg _ (nlc (nld Qan _) (nlc (nld Qab _) nl0))) (nlc (nld Qah _) nl0)) nll),tv⟩) ?_
   refine bfe h (fun hc6 h=>?_) fun hc6 h=>?_
   ·refine wft hc6<|wxz<|Qai<|Qaj ?_
    obtain rfl:=osi h
    exact fend ⟨[I 1],⟨rot,tv⟩,rfl⟩ nll
   ·refine wfn hc6<|Qam<|thn ?_
    obtain⟨x8,hf7,h⟩:=bno h
    refine wx tbk [(2,rp _ _)] ⟨apw Znr (Qp2 N p0 p2 _ hf7),tv⟩<|Qai ?_
    obtain rfl:=osi h
    exact fend ⟨[I x8],⟨rot,tv⟩,rfl⟩ nll
def Qc9 (N:Nat) (y6:Int) (k14:Int×Int→Option (Int×Int×Bool)) (x20:(Qe5×Int×Int)):Nat→Int→Int→Int→Option (Int×Int×Bool)
  |0,_,_,_=>none
  |n28+1,y22,y23,y24=>
    bif (decide (y24<(x20.1.Lost.length:Int))) then
     bif (decide (y22<0)) then
      (getI x20.1.Lost y24).bind fun x31=>
      bif (decide (x31.Scale>0)) then
       Qc9 N y6 k14 x20 n28 y6 y24 (w64 (y24+1))
      else
       Qc9 N y6 k14 x20 n28 y22 y23 (w64 (y24+1))
     else
      Qc9 N y6 k14 x20 n28 y22 y23 (w64 (y24+1))
    else
     k14 (y22,y23)
def Qct (N:Nat) (p0:GNet) (p1:List Int) (p2:List (List Qaa)) (k3:Int×Int→Option (Int×Int×Bool)):Nat→Int→Int→Int→Option (Int×Int×Bool)
  |0,_,_,_=>none
  |n10+1,y4,y5,y6=>
    bif (decide (y6<(p2.length:Int))) then
     Qbc (fun ⟨y12,y13⟩=>
       Qct N p0 p1 p2 k3 n10 y12 y13 (w64 (y6+1))) fun k14:Int×Int→Option (Int×Int×Bool)=>
     (getI p2 y6).bind fun x15=>
     (Qmb N p0 p1 x15).bind fun x20=>
     bif (decide (x20.2.2≥0)) then
      some (0,0,false)
     else
      Qc9 N y6 k14 x20 N y4 y5 0
    else
     k3 (y4,y5)
def Qjy (N:Nat) (p0:GNet) (p1:List Int) (p2:List (List Qaa)):Option (Int×Int×Bool):=
  Qbc (fun ⟨y1,y2⟩=>
    some (y1,y2,true)) fun k3:Int×Int→Option (Int×Int×Bool)=>
  Qct N p0 p1 p2 k3 N (-1) (-1) 0
def Qok (p2:List (List Qaa)):AV:=.dat 1 (p2.map Qag)
def Zqh (p0:GNet):AV:=.dat 7 (p0.Elements.map Qae)
def Qol (p0:GNet):Slot:=.own 2 [[(.dat 5 (p0.Table.map Qap)),(Zqh p0)]]
def Qsq (x20:(Qe5×Int×Int)):Slot:=.own 3 [[(.dat 1 (x20.1.Out.map Qag)),(.dat 4 (x20.1.Lost.map Qat)),(.dat 1 (x20.1.State.map Qac))]]
theorem Quh (N:Nat) (p0:GNet) (p1:List Int) (p2:List (List Qaa)) (r:(Int×Int×Bool)) (h:Qjy N p0 p1 p2=some r):Spec prog 45 [(.agg (Qgw p0)),(.dat 1 (p1.map Qac)),(.dat 1 (p2.map Qag))] [] (.tup [(I r.1),(I r.2.1),(B r.2.2)]) []:=by
  refine sA func45 0 fun _ _ _ hq hd0=>?_
  unfold Qjy at h
  refine wxz<|wxz ?_
  obtain⟨k3,hk_k3,h⟩:=jko h
  refine wjn (τ:=Int×Int) (fun t=>k3 t=some r) (fun ⟨y1,y2⟩=>⟨mk 57 [(9,I y1),(10,I y2)],[]⟩) (fun t h=>?_) ?_
  ·subst hk_k3
   obtain⟨y1,y2⟩:=t
   refine wxz<|Qai ?_
   obtain rfl:=osi h
   exact fie [I y1,I y2,B true] ⟨rot,rot,rot,tv⟩
  ·skip
   refine wxz<|Qao ?_
   refine wmr (mto (n:=57) (l':=[(1,(.dat 1 (p1.map Qac))),(2,(Qok p2)),(3,.ref 0 2 0 0),(9,(I ((-1)))),(10,(I ((-1)))),(11,I 0)]) (own':=[(Qol p0)]) [(1,(.dat 1 (p1.map Qac))),(2,(Qok p2)),(3,.ref 0 2 0 0),(9,(I ((-1)))),(10,(I ((-1)))),(11,I 0)] [0] [(Qol p0)] hq (pc (rnd Qah) (pc (rnd Qak) (prr (pw (pw (pw pn)))))) (qb (lc (rnd Qan) (lc (rnd Qab) ln)) qn)) ?_
   refine Qbl (τ:=Int×Int×Int) (fun n t=>Qct N p0 p1 p2 k3 n t.1 t.2.1 t.2.2=some r) (fun ⟨y4,y5,y6⟩=>⟨mk 57 [(1,(.dat 1 (p1.map Qac))),(2,(Qok p2)),(3,.ref 0 2 0 0),(9,I y4),(10,I y5),(11,I y6)],[(Qol p0)]⟩) (fun t h=>by rw[Qct] at h;cases h) (fun n10 ih t h=>?_) N ((-1),(-1),0) h
   obtain⟨y4,y5,y6⟩:=t
   rw[Qct] at h
   skip
   refine wsq<|wx tbk [(2,rp _ _)] ⟨alq 1 Qag p2 underlying49,tv⟩ ?_
   refine bfe h (fun hc11 h=>?_) fun hc11 h=>?_
   ·refine wft hc11<|Qam<|thn ?_
    obtain⟨k14,hk_k14,h⟩:=jko h
    refine wjn (τ:=Int×Int) (fun t=>k14 t=some r) (fun ⟨y12,y13⟩=>⟨mk 57 [(1,(.dat 1 (p1.map Qac))),(2,(Qok p2)),(3,.ref 0 2 0 0),(9,I y12),(10,I y13),(11,I y6)],[(Qol p0)]⟩) (fun t h=>?_) ?_
    ·subst hk_k14
     obtain⟨y12,y13⟩:=t
     exact wxz1<|thn<|arm (mto (n:=57) [(1,(.dat 1 (p1.map Qac))),(2,(Qok p2)),(3,.ref 0 2 0 0),(9,I y12),(10,I y13),(11,(I (w64 (y6+1))))] [0] [(Qol p0)] hq (pc (rnd Qah) (pc (rnd Qak) (prr (pw (pw (pw pn)))))) (qb (lc (rnd Qan) (lc (rnd Qab) ln)) qn)) (ih (y12,y13,w64 (y6+1)) h)
    ·skip
     refine Qao ?_
     obtain⟨x15,hg16,h⟩:=bno h
     obtain⟨hi17,hj18⟩:=gsm hg16
     obtain⟨x20,hf19,h⟩:=bno h
     refine wxd tbk [(4,rp _ _),(6,rp _ _)] ⟨aiq underlying49 ti28 Qag hi17 hj18,apw Zei (Qtv N p0 p1 x15 _ hf19),tv⟩<|wsq<|wxz ?_
     refine bfe h (fun hc21 h=>?_) fun hc21 h=>?_
     ·refine wft hc21<|wxz<|Qai<|Qaj<|Qar<|Qaj<|Qaj<|Qar<|Qaj ?_
      obtain rfl:=osi h
      exact fie [I 0,I 0,B false] ⟨rot,rot,rot,tv⟩
     ·refine wfn hc21<|Qam<|thn<|wxz<|Qao ?_
      refine wmr (mto (n:=57) (l':=[(1,(.dat 1 (p1.map Qac))),(2,(Qok p2)),(3,.ref 0 2 0 0),(9,I y4),(10,I y5),(11,I y6),(12,.ref 1 3 0 0),(15,I 0)]) (own':=[(Qol p0),(Qsq x20)]) [(1,(.dat 1 (p1.map Qac))),(2,(Qok p2)),(3,.ref 0 2 0 0),(9,I y4),(10,I y5),(11,I y6),(12,.ref 1 3 0 0),(15,I 0)] [0,1] [(Qol p0),(Qsq x20)] hq (pc (rnd Qah) (pc (rnd Qak) (prr (pw (pw (pw (prr (pw pn)))))))) (qb (lc (rnd Qan) (lc (rnd Qab) ln)) (qb (lc (rnd Qak) (lc (rnd Qa2) (lc (rnd Qah) ln))) qn))) ?_
      refine Qbl (τ:=Int×Int×Int) (fun n t=>Qc9 N y6 k14 x20 n t.1 t.2.1 t.2.2=some r) (fun ⟨y22,y23,y24⟩=>⟨mk 57 [(1,(.dat 1 (p1.map Qac))),(2,(Qok p2)),(3,.ref 0 2 0 0),(9,I y22),(10,I y23),(11,I y6),(12,.ref 1 3 0 0),(15,I y24)],[(Qol p0),(Qsq x20)]⟩) (fun t h=>by rw[Qc9] at h;cases h) (fun n28 ih t h=>?_) N (y4,y5,0) h
      obtain⟨y22,y23,y24⟩:=t
      rw[Qc9] at h
      skip
      refine wsq<|wx tbk [(3,rp _ _)] ⟨alq 4 Qat x20.1.Lost underlying50,tv⟩ ?_
      refine bfe h (fun hc29 h=>?_) fun hc29 h=>?_
      ·refine wft hc29<|Qam<|thn<|wsq<|Qao ?_
       refine bfe h (fun hb30 h=>?_) fun hb30 h=>?_
       ·obtain⟨x31,hg32,h⟩:=bno h
        obtain⟨hi33,hj34⟩:=gsm hg32
        refine wx tbk [(2,rp [(.tmp 43,(B ((decide (y22<0)))))] (B true)),(6,rp [(.tmp 44,B true),(.tmp 46,(.dat 4 (x20.1.Lost.map Qat))),(.tmp 47,I y24)] (.dptr (Qat x31) 0))] ⟨asb hb30 (amv rfl),ag_ (aiq underlying50 ti90 Qat hi33 hj34),tv⟩ ?_
        refine bfe h (fun hc35 h=>?_) fun hc35 h=>?_
        ·exact wft hc35<|wxz1<|bln<|thn<|wxz1<|thn<|arm (mto (n:=57) [(1,(.dat 1 (p1.map Qac))),(2,(Qok p2)),(3,.ref 0 2 0 0),(9,I y6),(10,I y24),(11,I y6),(12,.ref 1 3 0 0),(15,(I (w64 (y24+1))))] [0,1] [(Qol p0),(Qsq x20)] hq (pc (rnd Qah) (pc (rnd Qak) (prr (pw (pw (pw (prr (pw pn)))))))) (qb (lc (rnd Qan) (lc (rnd Qab) ln)) (qb (lc (rnd Qak) (lc (rnd Qa2) (lc (rnd Qah) ln))) qn))) (ih (y6,y24,w64 (y24+1)) h)
        ·exact wfn hc35<|Qam<|bln<|thn<|wxz1<|thn<|arm (mto (n:=57) [(1,(.dat 1 (p1.map Qac))),(2,(Qok p2)),(3,.ref 0 2 0 0),(9,I y22),(10,I y23),(11,I y6),(12,.ref 1 3 0 0),(15,(I (w64 (y24+1))))] [0,1] [(Qol p0),(Qsq x20)] hq (pc (rnd Qah) (pc (rnd Qak) (prr (pw (pw (pw (prr (pw pn)))))))) (qb (lc (rnd Qan) (lc (rnd Qab) ln)) (qb (lc (rnd Qak) (lc (rnd Qa2) (lc (rnd Qah) ln))) qn))) (ih (y22,y23,w64 (y24+1)) h)
       ·exact wx tbk [(2,rp [(.tmp 43,(B ((decide (y22<0)))))] (B false))] ⟨asb hb30 (amv rfl),tv⟩<|wfa<|Qam<|bln<|thn<|wxz1<|thn<|arm (mto (n:=57) [(1,(.dat 1 (p1.map Qac))),(2,(Qok p2)),(3,.ref 0 2 0 0),(9,I y22),(10,I y23),(11,I y6),(12,.ref 1 3 0 0),(15,(I (w64 (y24+1))))] [0,1] [(Qol p0),(Qsq x20)] hq (pc (rnd Qah) (pc (rnd Qak) (prr (pw (pw (pw (prr (pw pn)))))))) (qb (lc (rnd Qan) (lc (rnd Qab) ln)) (qb (lc (rnd Qak) (lc (rnd Qa2) (lc (rnd Qah) ln))) qn))) (ih (y22,y23,w64 (y24+1)) h)
      ·exact wfn hc29<|Qa7<|Qau<|Qau<|Qa6 rfl<|bln<|thn<|⟨(y22,y23),h,(mto (n:=57) [(1,(.dat 1 (p1.map Qac))),(2,(Qok p2)),(3,.ref 0 2 0 0),(9,I y22),(10,I y23),(11,I y6)] [0] [(Qol p0)] hq (pc (rnd Qah) (pc (rnd Qak) (prr (pw (pw (pw pn)))))) (qb (lc (rnd Qan) (lc (rnd Qab) ln)) qn))⟩
   ·exact wfn hc11<|Qa7<|Qau<|Qau<|Qa6 rfl<|thn<|⟨(y4,y5),h,(mto (n:=57) [(9,I y4),(10,I y5)] [] [] hq (pw (pw pn)) qn)⟩
end
section
theorem Q87 (N:Nat) (l:List (List Qaa)) (k:List (List Qaa)→Option (List (List Qaa))) (hN:1001≤N) (hl:l.length≤1000) (hc:∀c∈l,c.length≤1000):∀(m i:Nat) (acc:List (List Qaa)),(l.drop i).length<m→acc.length=i→Qe1 N l k m acc i=k (acc++l.drop i):=by
 intro m
 induction m with
 |zero=>intro i _ h;cases h
 |succ m ih=>
  intro i acc h ha
  rw[Qe1]
  cases hd:l.drop i with
  |nil=>
   have:=Qbs hd
   simp[show ¬((i:Int)<l.length) from by omega]
  |cons p q=>
   obtain⟨hg,hd',hlt⟩:=Qbg hd
   simp only[dlI hlt,cond_true,Qbu hg,Option.bind_some,Q8f (hc p (List.mem_of_getElem? hg)) hN,chk]
   rw[show decide ((acc.length+[p].length)*24≤140737488355328)=true by simp;omega,cond_true,w64S (i:=i) (by omega),
    ih (i+1) _ (dlt hd hd' h) (by simp[ha]),hd',List.append_assoc]
   rfl
theorem Zi7 {N:Nat}{l:List (List Qaa)}(hN:1001≤N) (hl:l.length≤1000) (hc:∀c∈l,c.length≤1000):Qld N l=some l:=by
 unfold Qld
 rw[Qej]
 refine(Q87 N l _ hN hl hc N 0 [] (by simp;omega) rfl).trans ?_
 rw[List.drop_zero,List.nil_append]
theorem Zd4 (N:Nat) (l:List (List Qaa)) (k:Unit→Option Bool) (hl:l.length≤9223372036854775807):∀(m i:Nat),(l.drop i).length<m→Qe7 N k l m i=bif (l.drop i).all (fun c=>decide (c.length≤25)) then k () else some false:=by
 intro m
 induction m with
 |zero=>intro i h;cases h
 |succ m ih=>
  intro i h
  rw[Qe7]
  cases hd:l.drop i with
  |nil=>
   have:=Qbs hd
   simp[show ¬((i:Int)<l.length) from by omega]
  |cons p q=>
   obtain⟨hg,hd',hlt⟩:=Qbg hd
   simp only[dlI hlt,cond_true,Qbu hg,Option.bind_some,List.all_cons]
   by_cases hp:p.length≤25
   ·rw[decide_eq_false (show ¬((p.length:Int)>25) by omega),decide_eq_true hp,cond_false,Bool.true_and,w64S (i:=i) (by omega),ih (i+1) (dlt hd hd' h),hd']
   ·rw[decide_eq_true (show(p.length:Int)>25 by omega),decide_eq_false hp]
    rfl
theorem Znj {N:Nat}{n:GNet}{l:List (List Qaa)}(hn:(n.Elements.length:Int)≤9223372036854775807) (hl:l.length≤9223372036854775807) (hN:n.Elements.length+1001≤N) (hN2:l.length<N):Qlz N n l=some false∨(Qlz N n l=some true∧Qim n∧l.length≤8∧∀c∈l,c.length≤25):=by
 unfold Qlz
 rw[Qej]
 have hloop:=fun k=>Zd4 N l k hl N 0 (by simp;omega)
 simp only[List.drop_zero] at hloop
 rw[show ∀k,Qe7 N k l N 0=_ from hloop]
 cases ha:l.all (fun c=>decide (c.length≤25)) with
 |false=>exact .inl rfl
 |true=>
  rw[cond_true]
  rcases Zru (N:=N) (n:=n) (ws:=[]) hn (by omega) with e |⟨e,hs,_⟩
  ·rw[e];exact .inl rfl
  ·rw[e,Option.bind_some,cond_true]
   by_cases h8:l.length≤8
   ·rw[decide_eq_true (show(l.length:Int)≤8 by omega)]
    exact .inr ⟨rfl,hs,h8,fun c hc=>by simpa using List.all_eq_true.1 ha c hc⟩
   ·rw[decide_eq_false (show ¬((l.length:Int)≤8) by omega)]
    exact .inl rfl
def Q2d (n:GNet):List (List Qaa)→Int
 |[]=>0
 |c::l=>if fedI n c=0 then Q2d n l else fedI n c
def Qj8 (n:GNet) (st:List Int) (l:List (List Qaa)):Int:=bif netB n&&stB n st then(bif btw l.length 1 6 then Q2d n l else 3) else 1
section
variable {N : Nat} {n : GNet} (hs : Qim n) (hN : 1001 ≤ N) {l : List (List Qaa)} (hl : l.length ≤ 1000) (hc : ∀ c ∈ l, c.length ≤ 1000)
include hs hN hl hc
theorem Q4e (k:Unit→Option Int) (hk:k ()=some 0):∀(m i:Nat),(l.drop i).length<m→Qfh N n l k m i=some (Q2d n (l.drop i)):=by
 intro m
 induction m with
 |zero=>intro i h;cases h
 |succ m ih=>
  intro i h
  rw[Qfh]
  cases hd:l.drop i with
  |nil=>
   have:=Qbs hd
   rw[decide_eq_false (show ¬((i:Int)<(l.length:Int)) by omega),cond_false,hk]
   rfl
  |cons p q=>
   obtain⟨hg,hd',hlt⟩:=Qbg hd
   simp only[dlI hlt,cond_true,Qbu hg,Option.bind_some,Zrv hs hN (hc p (List.mem_of_getElem? hg))]
   rw[w64S (i:=i) (by omega),ih (i+1) (dlt hd hd' h),hd',Q2d]
   by_cases h0:fedI n p=0
   ·rw[h0,if_pos rfl];rfl
   ·rw[if_neg h0,show(fedI n p != 0)=true by simpa using h0,cond_true]
theorem Zhi {st:List Int}(hl2:st.length≤1000):Qmd N n st l=some (Qj8 n st l):=by
 unfold Qmd Qj8
 rw[Zcg hs hN hl2,Option.bind_some]
 cases netB n&&stB n st with
 |false=>rfl
 |true=>
  rw[cond_true,cond_true,bne_self_eq_false,cond_false,Qkg,Option.bind_some]
  cases btw (l.length:Int) 1 6 with
  |false=>rfl
  |true=>
   rw[Bool.not_true,cond_false,Qej,cond_true]
   refine(Q4e hs hN hl hc _ rfl N 0 (by simp;omega)).trans ?_
   rw[List.drop_zero]
theorem Q2e (k:Unit→Option Int) (hk:k ()=some 0):∀(m i:Nat),(l.drop i).length<m→Qdb N n l k m i=some (Q2d n (l.drop i)):=by
 intro m
 induction m with
 |zero=>intro i h;cases h
 |succ m ih=>
  intro i h
  rw[Qdb]
  cases hd:l.drop i with
  |nil=>
   have:=Qbs hd
   rw[decide_eq_false (show ¬((i:Int)<(l.length:Int)) by omega),cond_false,hk]
   rfl
  |cons p q=>
   obtain⟨hg,hd',hlt⟩:=Qbg hd
   simp only[dlI hlt,cond_true,Qbu hg,Option.bind_some,Q2q hs hN (hc p (List.mem_of_getElem? hg))]
   rw[w64S (i:=i) (by omega),ih (i+1) (dlt hd hd' h),hd',Q2d]
   by_cases h0:fedI n p=0
   ·rw[h0,if_pos rfl];rfl
   ·rw[if_neg h0,show(fedI n p != 0)=true by simpa using h0,cond_true]
theorem Zd5 {st:List Int}(hl2:st.length≤1000):Qj6 N n st l=some (Qj8 n st l):=by
 unfold Qj6 Qj8
 rw[Zde hs hN,Option.bind_some]
 cases netB n with
 |false=>rfl
 |true=>
  rw[Bool.not_true,cond_false,Q8l (n:=n) hl2 hN,Option.bind_some]
  cases stB n st with
  |false=>rfl
  |true=>
   rw[Bool.not_true,cond_false]
   unfold Qip btw
   rw[Qej]
   by_cases h1:(l.length:Int)<1
   ·rw[decide_eq_true h1,decide_eq_false (show ¬1≤(l.length:Int) by omega)];rfl
   ·rw[decide_eq_false h1,decide_eq_true (show 1≤(l.length:Int) by omega),cond_false]
    by_cases h6:(l.length:Int)>6
    ·rw[decide_eq_true h6,decide_eq_false (show ¬(l.length:Int)≤6 by omega)];rfl
    ·rw[decide_eq_false h6,decide_eq_true (show(l.length:Int)≤6 by omega),cond_false,Qej]
     have:=Q2e hs hN hl hc (fun _=>some 0) rfl N 0 (by simp;omega)
     rw[List.drop_zero] at this
     exact congrArg (fun o:Option Int=>o.bind fun x8=>some x8) this
end
def Ql6 (n:GNet) (c:List Qaa) (r:Q28):Qdt:=⟨n,⟨r.1,r.2.1,r.2.2.1⟩,c,r.2.2.2⟩
def Qkl (n:GNet) (st:List Int):List (List Qaa)→Option (List Qdt)
 |[]=>some []
 |c::l=>Quk (Qvh n st c) (fun _=>none) (fun r=>(Qkl n st l).map (Ql6 n c r :: ·))
theorem Q63 {n:GNet}:∀{l:List (List Qaa)},Q2d n l=0→∀c∈l,FedV n c
 |[],_,c,h=>by cases h
 |d::l,h0,c,h=>by
  rw[Q2d] at h0
  by_cases hd:fedI n d=0
  ·rw[if_pos hd] at h0
   rcases List.mem_cons.1 h with rfl |h
   ·exact Znk hd
   ·exact Q63 h0 c h
  ·rw[if_neg hd] at h0
   exact absurd h0 hd
def Zos (n:GNet) (st:List Int) (l:List (List Qaa)):List Qdt×Bool:=match Qkl n st l with |some w=>(w,true) |none=>([],false)
theorem Zeo {N:Nat}{n:GNet}(hs:Qim n) (hN:1001≤N) (hv:NetV n) {st:List Int}(hst:StV n st) {l:List (List Qaa)}(hl:l.length≤1000) (hf:∀c∈l,FedV n c):∀(m i:Nat) (acc:List Qdt),(l.drop i).length<m→acc.length=i →
  Qdf N n st (fun y=>some (y,true)) l m acc i=some (match Qkl n st (l.drop i) with |some w=>(acc++w,true) |none=>([],false)):=by
 intro m
 induction m with
 |zero=>intro i _ h;cases h
 |succ m ih=>
  intro i acc h ha
  rw[Qdf]
  cases hd:l.drop i with
  |nil=>
   have:=Qbs hd
   rw[decide_eq_false (show ¬((i:Int)<(l.length:Int)) by omega),cond_false,Qkl]
   simp
  |cons c q=>
   obtain⟨hg,hd',hlt⟩:=Qbg hd
   have hfc:=hf c (List.mem_of_getElem? hg)
   rw[decide_eq_true (show(i:Int)<(l.length:Int) by omega),cond_true,Qbu hg,Option.bind_some,Zty hs hN hv hfc hst,Qkl]
   cases hT:Qvh n st c with
   |inl a=>
    simp only[Quk,Option.bind_some,Sum.elim_inl]
    rw[decide_eq_true (show(a:Int)≥0 by omega),cond_true]
   |inr r=>
    have hR:=Qza hv hfc hst hT
    have e1:=hR.inv.lo
    have e2:=hR.inv.ll
    have e0:=Qxt hst
    have e3:r.2.2.1.length=n.Elements.length:=by rw[hR.ss,List.length_zipWith];omega
    simp only[Quk,Option.bind_some,Sum.elim_inr,show decide ((-1:Int)≥0)=false from rfl,cond_false,chk,Int.toNat_natCast]
    rw[show decide (n.Elements.length≤r.1.length)=true by simp;omega,show decide (n.Elements.length≤r.2.1.length)=true by simp;omega,show decide (st.length≤r.2.2.1.length)=true by simp;omega,List.take_of_length_le (by omega),List.take_of_length_le (by omega),List.take_of_length_le (by omega),cond_true,cond_true,cond_true]
    have hih:=ih (i+1) (acc++[Ql6 n c r]) (dlt hd hd' h) (by simp[ha])
    rw[hd'] at hih
    show(bif decide ((acc.length+[Ql6 n c r].length)*8≤140737488355328) then Qdf N n st (fun y=>some (y,true)) l m (acc++[Ql6 n c r]) (w64 ((i:Int)+1)) else none)=_
    rw[show decide ((acc.length+[Ql6 n c r].length)*8≤140737488355328)=true by simp;omega,cond_true,w64S (i:=i) (by omega),hih]
    cases Qkl n st q with
    |none=>rfl
    |some w=>simp
theorem Zor {N:Nat}{n:GNet}(hs:Qim n) (hN:1001≤N) (hv:NetV n) {st:List Int}(hst:StV n st) {l:List (List Qaa)}(hl:l.length≤1000) (hf:∀c∈l,FedV n c):Qi3 N n st l=some (Zos n st l):=by
 unfold Qi3
 rw[Qej]
 refine(Zeo hs hN hv hst hl hf N 0 [] (by simp;omega) rfl).trans ?_
 unfold Zos
 rw[List.drop_zero]
 cases Qkl n st l<;>rfl
def fstL:Nat→List Qa1→Option Nat
 |_,[]=>none
 |i,x::l=>if x.Scale>0 then some i else fstL (i+1) l
def unsL:Nat→List Qdt→Int×Int
 |_,[]=>(-1,-1)
 |k,w::l=>match fstL 0 w.Tick.Lost with |some i=>((k:Int),(i:Int)) |none=>unsL (k+1) l
end
section
section
variable {N : Nat} {n : GNet} (hs : Qim n) (hN : 1001 ≤ N)
include hs
include hN
end
end
section
def wdR (r:Qli) (v:Int):Qli:=⟨if v<r.Lo then v else r.Lo,if v>r.Hi then v else r.Hi⟩
def rngF (f:Qdt→Int):List Qdt→Qli
 |[]=>⟨0,0⟩
 |w::l=>l.foldl (fun r x=>wdR r (f x)) ⟨f w,f w⟩
theorem Zg1 (f:Qdt→Int) {W:List Qdt}(h:W≠[]) (x:Qdt):rngF f (W++[x])=wdR (rngF f W) (f x):=by
 cases W with
 |nil=>exact absurd rfl h
 |cons w l=>rw[List.cons_append,rngF,rngF,List.foldl_append];rfl
def Has (w:Qdt) (p:Qbn):Prop:=∃r,getI w.Tick.Out p.Element=some r∧getI r p.Outlet=some (Qg8 w.Tick.Out p)
def Zrw (p:Qbn) (w:Qdt):Int:=(Qg8 w.Tick.Out p).Mass
def Zrx (p:Qbn) (w:Qdt):Int:=(Qg8 w.Tick.Out p).Heat
def Zd7 (p:Qbn) (w:Qdt):Int:=(Qg8 w.Tick.Out p).Silica
def fGas (p:Qbn) (w:Qdt):Int:=(Qg8 w.Tick.Out p).Gas
end
section
theorem Zrr {n:GNet}{ws:List Qaa}{r:Q28}(hI:InvT n ws n.Elements.length r.1 r.2.1) {p:Qbn}(hp:p∈Zop n) (c:List Qaa):Has (Ql6 n c r) p:=by
 obtain⟨h1,h2,q,h3,h4⟩:=Zm8 hI hp
 exact⟨q,by show getI r.1 p.Element=_;unfold getI;rw[if_pos h1,h3],by unfold getI;rw[if_pos h2,h4];rfl⟩
section
variable {N : Nat} {n : GNet} (hs : Qim n) (hN : 1001 ≤ N)
include hs
end
end
section
section
variable {N : Nat} {n : GNet} (hs : Qim n) (hN : 1001 ≤ N) (hv : NetV n) {st : List Int} (hst : StV n st) {l : List (List Qaa)} (hl : l.length ≤ 1000) (hf : ∀ c ∈ l, FedV n c)
include hs hN hv hst hl hf
omit hs hN hv hst hl hf in
theorem Q78 (t:Qe5) (e:Int×Int) (y:Int) (hy:0≤y) (hL:t.Lost.length≤1000) (k:Int×Int→Option (Int×Int×Bool)):∀(m j:Nat) (a b:Int),(t.Lost.drop j).length<m →
  Qc9 N y k (t,e) m a b j=k (if a<0 then(match fstL j (t.Lost.drop j) with |some q=>(y,(q:Int)) |none=>(a,b)) else(a,b)):=by
 intro m
 induction m with
 |zero=>intro j _ _ h;cases h
 |succ m ih=>
  intro j a b h
  rw[Qc9]
  cases hd:t.Lost.drop j with
  |nil=>
   have:=Qbs hd
   rw[decide_eq_false (show ¬((j:Int)<(t.Lost.length:Int)) by omega),cond_false,fstL]
   split<;>rfl
  |cons x q=>
   obtain⟨hg,hd',hlt⟩:=Qbg hd
   have hlen:(t.Lost.drop (j+1)).length<m:=by rw[hd'];rw[hd] at h;simp at h;omega
   rw[decide_eq_true (show(j:Int)<(t.Lost.length:Int) by omega),cond_true,w64S (i:=j) (by omega)]
   by_cases ha:a<0
   ·rw[decide_eq_true ha,cond_true,Qbu hg,Option.bind_some,if_pos ha,fstL]
    by_cases hx:x.Scale>0
    ·rw[decide_eq_true hx,cond_true,ih (j+1) y j hlen,if_neg (by omega),if_pos hx]
    ·rw[decide_eq_false hx,cond_false,ih (j+1) a b hlen,if_pos ha,if_neg hx,hd']
   ·rw[decide_eq_false ha,cond_false,ih (j+1) a b hlen,if_neg ha,if_neg ha]
theorem Zb4 (k:Int×Int→Option (Int×Int×Bool)):∀(m i:Nat) (a b:Int),(l.drop i).length<m→(a<0→a=-1∧b=-1) →
  Qct N n st l k m a b i=match Qkl n st (l.drop i) with |some w=>k (if a<0 then unsL i w else(a,b)) |none=>some (0,0,false):=by
 intro m
 induction m with
 |zero=>intro i _ _ h;cases h
 |succ m ih=>
  intro i a b h hab
  rw[Qct]
  cases hd:l.drop i with
  |nil=>
   have:=Qbs hd
   rw[decide_eq_false (show ¬((i:Int)<(l.length:Int)) by omega),cond_false,Qkl]
   by_cases ha:a<0
   ·obtain⟨rfl,rfl⟩:=hab ha;rfl
   ·simp[ha]
  |cons c q=>
   obtain⟨hg,hd',hlt⟩:=Qbg hd
   have hfc:=hf c (List.mem_of_getElem? hg)
   rw[decide_eq_true (show(i:Int)<(l.length:Int) by omega),cond_true,Qej,Qbu hg,Option.bind_some,Q6h hs hN hv hfc hst,Option.bind_some,Qkl]
   cases hT:Qvh n st c with
   |inl a'=>
    dsimp only[Quk]
    show(bif decide ((a':Int)≥0) then _ else _)=_
    rw[decide_eq_true (show(a':Int)≥0 by omega),cond_true]
   |inr r=>
    have hR:=Qza hv hfc hst hT
    have hll:=hR.inv.ll
    have e0:=hs.e
    dsimp only[Quk]
    show(bif decide ((-1:Int)≥0) then _ else _)=_
    rw[show decide ((-1:Int)≥0)=false from rfl,cond_false]
    refine(Q78 ⟨r.1,r.2.1,r.2.2.1⟩ _ (i:Int) (by omega) (by dsimp only;omega) _ N 0 a b (by dsimp only;simp;omega)).trans ?_
    have hlen:(l.drop (i+1)).length<m:=by rw[hd'];rw[hd] at h;simp at h;omega
    rw[List.drop_zero]
    by_cases ha:a<0
    ·rw[if_pos ha]
     cases hfi:fstL 0 r.2.1 with
     |some z=>
      have:=ih (i+1) (i:Int) (z:Int) hlen (fun h=>by omega)
      rw[hd'] at this
      show Qct N n st l k m (i:Int) (z:Int) (w64 ((i:Int)+1))=_
      rw[w64S (i:=i) (by omega),this]
      cases Qkl n st q with
      |none=>rfl
      |some w=>
       show k (if (i:Int)<0 then unsL (i+1) w else((i:Int),(z:Int)))=k (if a<0 then unsL i (Ql6 n c r::w) else(a,b))
       rw[if_neg (show ¬(i:Int)<0 by omega),if_pos ha,unsL,show fstL 0 (Ql6 n c r).Tick.Lost=some z from hfi]
     |none=>
      have:=ih (i+1) a b hlen hab
      rw[hd'] at this
      show Qct N n st l k m a b (w64 ((i:Int)+1))=_
      rw[w64S (i:=i) (by omega),this]
      cases Qkl n st q with
      |none=>rfl
      |some w=>
       show k (if a<0 then unsL (i+1) w else(a,b))=k (if a<0 then unsL i (Ql6 n c r::w) else(a,b))
       rw[if_pos ha,if_pos ha,unsL,show fstL 0 (Ql6 n c r).Tick.Lost=none from hfi]
    ·rw[if_neg ha]
     have:=ih (i+1) a b hlen hab
     rw[hd'] at this
     show Qct N n st l k m a b (w64 ((i:Int)+1))=_
     rw[w64S (i:=i) (by omega),this]
     cases Qkl n st q with
     |none=>rfl
     |some w=>
      show k (if a<0 then unsL (i+1) w else(a,b))=k (if a<0 then unsL i (Ql6 n c r::w) else(a,b))
      rw[if_neg ha,if_neg ha]
theorem Zmf:Qjy N n st l=some (match Qkl n st l with |some w=>((unsL 0 w).1,(unsL 0 w).2,true) |none=>(0,0,false)):=by
 unfold Qjy
 rw[Qej]
 refine(Zb4 hs hN hv hst hl hf _ N 0 (-1) (-1) (by simp;omega) (fun _=>⟨rfl,rfl⟩)).trans ?_
 rw[List.drop_zero]
 cases Qkl n st l<;>rfl
end
end
section
theorem Q79 (N:Nat) (y:Int) (w:Qdt) (hL:w.Tick.Lost.length≤1000) (k:Unit→Option (Int×Int)):∀(m j:Nat),(w.Tick.Lost.drop j).length<m→Qez N y k w m j=match fstL j (w.Tick.Lost.drop j) with |some q=>some (y,(q:Int)) |none=>k ():=by
 intro m
 induction m with
 |zero=>intro j h;cases h
 |succ m ih=>
  intro j h
  rw[Qez]
  cases hd:w.Tick.Lost.drop j with
  |nil=>
   have:=Qbs hd
   rw[decide_eq_false (show ¬((j:Int)<(w.Tick.Lost.length:Int)) by omega),cond_false,fstL]
  |cons x q=>
   obtain⟨hg,hd',hlt⟩:=Qbg hd
   rw[decide_eq_true (show(j:Int)<(w.Tick.Lost.length:Int) by omega),cond_true,Qbu hg,Option.bind_some,fstL]
   by_cases hx:x.Scale>0
   ·rw[decide_eq_true hx,cond_true,if_pos hx]
   ·rw[decide_eq_false hx,cond_false,if_neg hx,w64S (i:=j) (by omega),ih (j+1) (dlt hd hd' h),hd']
theorem Zb5 {N:Nat}(hN:1001≤N) (W:List Qdt) (hl:W.length≤1000) (hL:∀w∈W,w.Tick.Lost.length≤1000):∀(m i:Nat),(W.drop i).length<m→Qe0 N W (fun _=>some (-1,-1)) m i=some (unsL i (W.drop i)):=by
 intro m
 induction m with
 |zero=>intro i h;cases h
 |succ m ih=>
  intro i h
  rw[Qe0]
  cases hd:W.drop i with
  |nil=>
   have:=Qbs hd
   rw[decide_eq_false (show ¬((i:Int)<(W.length:Int)) by omega),cond_false,unsL]
  |cons w q=>
   obtain⟨hg,hd',hlt⟩:=Qbg hd
   have hw:=hL w (List.mem_of_getElem? hg)
   rw[decide_eq_true (show(i:Int)<(W.length:Int) by omega),cond_true,Qej,Qbu hg,Option.bind_some]
   refine(Q79 N (i:Int) w hw _ N 0 (by simp;omega)).trans ?_
   rw[List.drop_zero,unsL]
   cases fstL 0 w.Tick.Lost with
   |some z=>rfl
   |none=>
    dsimp only
    rw[w64S (i:=i) (by omega),ih (i+1) (dlt hd hd' h),hd']
theorem Zmg {N:Nat}(hN:1001≤N) {W:List Qdt}(hl:W.length≤1000) (hL:∀w∈W,w.Tick.Lost.length≤1000):Qlc N W=some (unsL 0 W):=by
 unfold Qlc
 rw[Qej]
 have:=Zb5 hN W hl hL N 0 (by simp;omega)
 rw[List.drop_zero] at this
 exact this
theorem Q2j {n:GNet}(hs:Qim n) (hv:NetV n) {st:List Int}(hst:StV n st):∀{l:List (List Qaa)}{W:List Qdt},(∀c∈l,FedV n c)→Qkl n st l=some W→W.length=l.length∧∀w∈W,w.Tick.Lost.length≤1000∧∀p∈Zop n,Has w p
 |[],W,_,h=>by rw[Qkl] at h;cases h;simp
 |c::l,W,hf,h=>by
  have hfc:=hf c List.mem_cons_self
  rw[Qkl] at h
  cases hT:Qvh n st c with
  |inl a=>rw[hT] at h;cases h
  |inr r=>
   rw[hT] at h
   have hR:=Qza hv hfc hst hT
   have hll:=hR.inv.ll
   have e0:=hs.e
   have h':(Qkl n st l).map (Ql6 n c r :: ·)=some W:=h
   rw[Option.map_eq_some_iff] at h'
   obtain⟨W',h1,rfl⟩:=h'
   obtain⟨a,b⟩:=Q2j hs hv hst (fun d hd=>hf d (List.mem_cons_of_mem _ hd)) h1
   refine⟨by simp[a],fun w hw=>?_⟩
   rcases List.mem_cons.1 hw with rfl |hw
   ·exact⟨by show r.2.1.length≤1000;omega,fun p hp=>Zrr hR.inv hp c⟩
   ·exact b w hw
theorem Qwe {n:GNet}{st:List Int}{l:List (List Qaa)}(h:Qj8 n st l=0):NetV n∧StV n st∧(∀c∈l,FedV n c)∧1≤l.length:=by
 unfold Qj8 at h
 cases hb:netB n&&stB n st with
 |false=>rw[hb] at h;cases h
 |true=>
  rw[hb,cond_true] at h
  rw[Bool.and_eq_true] at hb
  cases h6:btw (l.length:Int) 1 6 with
  |false=>rw[h6] at h;cases h
  |true=>
   rw[h6,cond_true] at h
   have:=Qf4.1 h6
   exact⟨Qv5 hb.1,Zrb hb.2,Q63 h,by omega⟩
section
variable {N : Nat} {n : GNet} (hs : Qim n) (hN : 1001 ≤ N) {l : List (List Qaa)} (hl : l.length ≤ 1000) (hc : ∀ c ∈ l, c.length ≤ 1000) {st : List Int} (hl2 : st.length ≤ 1000)
include hs hN hl hc hl2
end
end
section
structure StT (n:GNet) (st:List Int) (t:Nat):Prop where
 len:st.length=n.Elements.length
 bd:∀d∈st,0≤d∧d≤1000000000000+10000000000*(t:Int)
theorem StT.v {n:GNet}{st:List Int}{t:Nat}(h:StT n st t) (ht:t≤1000):StV n st:=
 ⟨h.len,fun d hd=>by have:=h.bd d hd;omega⟩
section
variable {N : Nat} {n : GNet} (hs : Qim n) (hN : 1001 ≤ N) (hv : NetV n) {ws : List Qaa} (hf : FedV n ws) {most : Nat} (hm : most ≤ 1000)
include hs hN hv hf hm
end
end
section
end
section
structure InC (s:Qaa) (W:List Qdt) (p:Qbn):Prop where
 m:(rngF (Zrw p) W).Lo≤s.Mass∧s.Mass≤(rngF (Zrw p) W).Hi
 h:(rngF (Zrx p) W).Lo≤s.Heat∧s.Heat≤(rngF (Zrx p) W).Hi
 q:(rngF (Zd7 p) W).Lo≤s.Silica∧s.Silica≤(rngF (Zd7 p) W).Hi
 g:(rngF (fGas p) W).Lo≤s.Gas∧s.Gas≤(rngF (fGas p) W).Hi
theorem Q2k {n:GNet}{st:List Int}:∀{l:List (List Qaa)}{W:List Qdt},Qkl n st l=some W→W.length=l.length∧∀(i:Nat) c,l[i]? = some c→∃r,Qvh n st c=.inr r∧W[i]? = some (Ql6 n c r)
 |[],W,h=>by rw[Qkl] at h;cases h;exact⟨rfl,fun i c h=>by simp at h⟩
 |d::l,W,h=>by
  rw[Qkl] at h
  cases hT:Qvh n st d with
  |inl a=>rw[hT] at h;cases h
  |inr r=>
   rw[hT] at h
   have h':(Qkl n st l).map (Ql6 n d r :: ·)=some W:=h
   rw[Option.map_eq_some_iff] at h'
   obtain⟨W',h1,rfl⟩:=h'
   obtain⟨a,b⟩:=Q2k h1
   refine⟨by simp[a],fun i c hc=>?_⟩
   cases i with
   |zero=>simp at hc;subst hc;exact⟨r,hT,rfl⟩
   |succ i=>simp at hc;obtain⟨q,h2,h3⟩:=b i c hc;exact⟨q,h2,by simpa using h3⟩
end
end Go.Proofs.YtmbhnllcfmiajaaGreat
