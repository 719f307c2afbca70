/-
  The texts PSc6, PN6, POpn, PE6, PTa6, PTb6, PTc6, X7, PRf6, PRs6, PSt6, PRd6, PKo6, PNet, PFt6, X14, PCa6, PEr6, PCb6, PCc6, PCd6, PCe6, PLf6, X15, PCf6 of the proof, one behind the other. No conditions.
-/
import Derived.Test.YtmbhnllcfmiajaaGreatG4
namespace Go.Proofs.YtmbhnllcfmiajaaGreat
open _root_.Go.Proofs.Tryz
section
open Go.RowKit
def totS (l:List Qaa):Qaa:=⟨(l.map fun s=>s.Mass).sum,(l.map fun s=>s.Heat).sum,(l.map fun s=>s.Silica).sum,(l.map fun s=>s.Gas).sum⟩
def totW (l:List Qaa):Qaa:=⟨w64 (totS l).Mass,w64 (totS l).Heat,w64 (totS l).Silica,w64 (totS l).Gas⟩
theorem Zb6 (N:Nat) (l:List Qaa) (k:Int×Int×Int×Int→Option Qaa) (hl:l.length≤1000000):∀(n i:Nat) (a b c d:Int),(l.drop i).length<n →
  Qff N l k n i (w64 a) (w64 b) (w64 c) (w64 d)=k (w64 (a+(totS (l.drop i)).Mass),w64 (b+(totS (l.drop i)).Heat),w64 (c+(totS (l.drop i)).Silica),w64 (d+(totS (l.drop i)).Gas)):=by
 intro n
 induction n with
 |zero=>intro i _ _ _ _ h;cases h
 |succ n ih=>
  intro i a b c d h
  rw[Qff]
  cases hd:l.drop i with
  |nil=>
   have:=Qbs hd
   simp[show ¬((i:Int)<l.length) from by omega,totS]
  |cons x q=>
   obtain⟨hg,hd',hlt⟩:=Qbf hd
   simp only[dlI hlt,cond_true,Qbu hg,Option.bind_some,Qou]
   rw[w64S (i:=i) (by omega),ih (i+1) _ _ _ _ (dlt hd hd' h),hd']
   simp only[totS,List.map_cons,List.sum_cons,Int.add_assoc]
theorem Qy3:w64 0=0:=by decide
theorem Q3r {N:Nat}{l:List Qaa}(hl:l.length≤1000) (hN:1001≤N):Qgo N l=some (totW l):=by
 unfold Qgo
 simp only[Qbc]
 have:=Zb6 N l (fun x=>match x with |(y1,y2,y3,y4)=>some (⟨y1,y2,y3,y4⟩:Qaa)) (by omega) N 0 0 0 0 0 (by simp;omega)
 rw[Qy3,List.drop_zero] at this
 refine this.trans ?_
 simp[totW]
theorem Zb9 (N:Nat) (l:List Qaa) (k:Int×Int×Int×Int→Option Qaa) (hl:l.length≤1000000):∀(n i:Nat) (a b c d:Int),(l.drop i).length<n →
  Qfv N l k n i (w64 a) (w64 b) (w64 c) (w64 d)=k (w64 (a+(totS (l.drop i)).Mass),w64 (b+(totS (l.drop i)).Heat),w64 (c+(totS (l.drop i)).Silica),w64 (d+(totS (l.drop i)).Gas)):=by
 intro n
 induction n with
 |zero=>intro i _ _ _ _ h;cases h
 |succ n ih=>
  intro i a b c d h
  rw[Qfv]
  cases hd:l.drop i with
  |nil=>
   have:=Qbs hd
   simp[show ¬((i:Int)<l.length) from by omega,totS]
  |cons x q=>
   obtain⟨hg,hd',hlt⟩:=Qbf hd
   simp only[dlI hlt,cond_true,Qbu hg,Qko,Qcl,Option.bind_some,Qou]
   rw[w64S (i:=i) (by omega),ih (i+1) _ _ _ _ (dlt hd hd' h),hd']
   simp only[totS,List.map_cons,List.sum_cons,Int.add_assoc]
theorem Zmq {N:Nat}{l:List Qaa}(hl:l.length≤1000) (hN:1001≤N):Qlv N l=some (totW l):=by
 unfold Qlv
 simp only[Qbc]
 have:=Zb9 N l (fun x=>match x with |(y1,y2,y3,y4)=>some (⟨y1,y2,y3,y4⟩:Qaa)) (by omega) N 0 0 0 0 0 (by simp;omega)
 rw[Qy3,List.drop_zero] at this
 refine this.trans ?_
 simp[totW]
theorem Qm9 (s:Qaa) (l:List Qaa):totS (s::l)=⟨s.Mass+(totS l).Mass,s.Heat+(totS l).Heat,s.Silica+(totS l).Silica,s.Gas+(totS l).Gas⟩:=by simp[totS]
theorem Qnr (s:Qaa):totS [s]=s:=by simp[totS]
theorem Q3q (l m:List Qaa):totS (l++m)=⟨(totS l).Mass+(totS m).Mass,(totS l).Heat+(totS m).Heat,(totS l).Silica+(totS m).Silica,(totS l).Gas+(totS m).Gas⟩:=by simp[totS]
structure TotV (t:Qaa) (n:Nat):Prop where
 m0:0≤t.Mass
 m1:t.Mass≤1000000*n
 h0:0≤t.Heat
 h1:t.Heat≤4000*t.Mass
 s0:0≤t.Silica
 s1:t.Silica≤10000*t.Mass
 g0:0≤t.Gas
 g1:t.Gas≤1000000000*n
theorem Qov:∀{l:List Qaa},(∀s∈l,StrV s)→TotV (totS l) l.length
 |[],_=>⟨by decide,by decide,by decide,by decide,by decide,by decide,by decide,by decide⟩
 |s::l,h=>by
  obtain⟨a1,a2,a3,a4,a5,a6,a7,a8⟩:=Qov fun x hx=>h x (List.mem_cons_of_mem s hx)
  obtain⟨b1,b2,b3,b4,b5,b6,b7,b8⟩:=h s List.mem_cons_self
  rw[Qm9]
  refine⟨?_,?_,?_,?_,?_,?_,?_,?_⟩<;>simp only[List.length_cons]<;>omega
theorem Qqg {l:List Qaa}(h:∀s∈l,StrV s) (hl:l.length≤1000):totW l=totS l:=by
 obtain⟨a1,a2,a3,a4,a5,a6,a7,a8⟩:=Qov h
 have:(l.length:Int)≤1000:=by omega
 unfold totW
 rw[Qbg (x:=(totS l).Mass) (by omega) (by omega),Qbg (x:=(totS l).Heat) (by omega) (by omega),Qbg (x:=(totS l).Silica) (by omega) (by omega),Qbg (x:=(totS l).Gas) (by omega) (by omega)]
theorem Zgl {l:List Qaa}(h:∀s∈l,StrV s) (hm:(totS l).Mass≤1000000) (hg:(totS l).Gas≤1000000000):StrV (totS l):=by
 obtain⟨a1,a2,a3,a4,a5,a6,a7,a8⟩:=Qov h
 exact⟨a1,hm,a3,a4,a5,a6,a7,hg⟩
def mx (s:Qaa):Int:=if s.Mass>1 then s.Mass else 1
def Qs4 (s:Qaa) (m:Int):Qaa:=⟨m,s.Heat*m/mx s,s.Silica*m/mx s,s.Gas*m/mx s⟩
def Qhg (s:Qaa) (ws:List Int):List Qaa:=(Qh9 s.Mass ws).map (Qs4 s)
def Qj2 (s:Qaa) (ws:List Int):Qht:=⟨s.Heat-(totS (Qhg s ws)).Heat,s.Silica-(totS (Qhg s ws)).Silica,s.Gas-(totS (Qhg s ws)).Gas⟩
theorem Q10 (s:Qaa):0<mx s:=by unfold mx;split<;>omega
theorem Zna {s:Qaa}(h:0≤s.Mass):s.Mass≤mx s:=by unfold mx;split<;>omega
theorem Zcy {n m c:Int}{s:Qaa}(hM:0≤s.Mass) (hm:0≤m) (hn:n≤c*s.Mass) (hc:0≤c):n*m/mx s≤c*m:=by
 have h1:n*m≤c*s.Mass*m:=Int.mul_le_mul_of_nonneg_right hn hm
 have h2:c*s.Mass*m≤c*m*mx s:=by
  rw[Int.mul_assoc,Int.mul_assoc,Int.mul_comm s.Mass m]
  exact Int.mul_le_mul_of_nonneg_left (Int.mul_le_mul_of_nonneg_left (Zna hM) hm) hc
 exact Int.ediv_le_of_le_mul (Q10 s) (Int.le_trans h1 h2)
theorem Qvy {n m:Int}{s:Qaa}(hM:0≤s.Mass) (hm:0≤m) (hmM:m≤s.Mass) (hn:0≤n):0≤n*m/mx s∧n*m/mx s≤n:=by
 have hp:=Q10 s
 refine⟨Int.ediv_nonneg (Int.mul_nonneg hn hm) (by omega),Int.ediv_le_of_le_mul hp ?_⟩
 have:=Zna hM
 exact Int.mul_le_mul_of_nonneg_left (by omega) hn
theorem Zg3 {s:Qaa}(hs:StrV s) {m:Int}(h0:0≤m) (h1:m≤s.Mass):StrV (Qs4 s m):=by
 obtain⟨a1,a2,a3,a4,a5,a6,a7,a8⟩:=hs
 have b1:=Qvy a1 h0 h1 a3
 have b2:=Zcy a1 h0 a4 (by omega)
 have b3:=Qvy a1 h0 h1 a5
 have b4:=Zcy a1 h0 a6 (by omega)
 have b5:=Qvy a1 h0 h1 a7
 exact⟨h0,by dsimp only[Qs4];omega,b1.1,b2,b3.1,b4,b5.1,by dsimp only[Qs4];omega⟩
theorem Q6k {n:Int}{s:Qaa}(hn:0≤n):∀(l:List Int),(∀m∈l,0≤m)→mx s*(l.map fun m=>n*m/mx s).sum≤n*l.sum
 |[],_=>by simp
 |m::l,h=>by
  have h1:=Q6k (n:=n) (s:=s) hn l fun x hx=>h x (List.mem_cons_of_mem _ hx)
  have hp:=Q10 s
  have h2:=Int.mul_ediv_self_le (x:=n*m) (k:=mx s) (by omega)
  simp only[List.map_cons,List.sum_cons,Int.mul_add]
  omega
theorem Qzl {n:Int}{s:Qaa}(hn:0≤n) (hM:0≤s.Mass) {l:List Int}(h:∀m∈l,0≤m) (hl:l.sum=s.Mass):(l.map fun m=>n*m/mx s).sum≤n:=by
 have h1:=Q6k (s:=s) hn l h
 have hp:=Q10 s
 rw[hl] at h1
 have h2:n*s.Mass≤n*mx s:=Int.mul_le_mul_of_nonneg_left (Zna hM) hn
 rw[Int.mul_comm n (mx s)] at h2
 exact Int.le_of_mul_le_mul_left (Int.le_trans h1 h2) hp
theorem Q79 (s:Qaa) (l:List Int):totS (l.map (Qs4 s))=⟨l.sum,(l.map fun m=>s.Heat*m/mx s).sum,(l.map fun m=>s.Silica*m/mx s).sum,(l.map fun m=>s.Gas*m/mx s).sum⟩:=by
 simp[totS,Qs4,Function.comp_def]
structure Zt1 (s:Qaa) (o:List Qaa) (l:Qht):Prop where
 v:∀x∈o,StrV x
 m:(totS o).Mass=s.Mass
 h:(totS o).Heat+l.Heat=s.Heat
 q:(totS o).Silica+l.Silica=s.Silica
 g:(totS o).Gas+l.Gas=s.Gas
 h0:0≤l.Heat
 q0:0≤l.Silica
 g0:0≤l.Gas
theorem Qji {s:Qaa}(hs:StrV s) {ws:List Int}(h:WtsV ws):Zt1 s (Qhg s ws) (Qj2 s ws):=by
 have hs':=hs
 obtain⟨a1,a2,a3,a4,a5,a6,a7,a8⟩:=hs'
 have hsum:=Qv6 h a1 a2
 have hbd:=Qs7 h a1 a2
 have hnn:∀m∈Qh9 s.Mass ws,0≤m:=fun m hm=>(hbd m hm).1
 have e:totS (Qhg s ws)=_:=Q79 s (Qh9 s.Mass ws)
 have t1:=Qzl (n:=s.Heat) (s:=s) a3 a1 hnn hsum
 have t2:=Qzl (n:=s.Silica) (s:=s) a5 a1 hnn hsum
 have t3:=Qzl (n:=s.Gas) (s:=s) a7 a1 hnn hsum
 refine⟨fun x hx=>?_,?_,?_,?_,?_,?_,?_,?_⟩
 ·obtain⟨m,hm,rfl⟩:=List.mem_map.1 hx
  exact Zg3 hs (hbd m hm).1 (hbd m hm).2
 ·rw[e];exact hsum
 all_goals (simp only[Qj2,e];omega)
section
variable {N : Nat} {s : Qaa} {ws : List Int} (hs : StrV s) (h : WtsV ws) (hN : 1001 ≤ N)
include hs in
theorem Zc5 {n m:Int}(hn:0≤n) (hn':n≤10000000000) (h0:0≤m) (h1:m≤s.Mass) (a b c:Int):Qfw N n m s.Mass a b c=some (n*m/mx s):=by
 have hM:=hs.m1
 have hM0:=hs.m0
 have hp:=bdp hn hn' h0 (show m≤1000000 by omega) (by omega)
 have hb:=Qvy hM0 h0 h1 hn
 have hx:=Q10 s
 unfold Qfw
 show chk (mx s != 0) ((some (w64 ((w64 (n*m)).tdiv (mx s)))).bind fun x2=>some x2)=_
 rw[show(mx s != 0)=true by rw[bne_iff_ne];omega,Qbg (x:=n*m) (by omega) (by omega),Int.tdiv_eq_ediv_of_nonneg hp.1,Qbg (by omega) (by omega)]
 rfl
include hs in
theorem Q8q (k:List Qaa→Option (List Qaa×Qht×Int)) (l:List Int) (hl:l.length≤20) (hb:∀m∈l,0≤m∧m≤s.Mass):∀(n i:Nat) (acc:List Qaa),(l.drop i).length<n→acc.length=i →
  Qel N s k l n acc i=k (acc++(l.drop i).map (Qs4 s)):=by
 intro n
 induction n with
 |zero=>intro i _ h;cases h
 |succ n ih=>
  intro i acc h ha
  rw[Qel]
  cases hd:l.drop i with
  |nil=>
   have:=Qbs hd
   simp[show ¬((i:Int)<l.length) from by omega]
  |cons m q=>
   obtain⟨hg,hd',hlt⟩:=Qbf hd
   obtain⟨m0,m1⟩:=hb m (List.mem_of_getElem? hg)
   have a1:=hs.m1
   simp only[dlI hlt,cond_true,Qbu hg,Option.bind_some,Zc5 (N:=N) hs hs.h0 (by have:=hs.h1;omega) m0 m1,Zc5 (N:=N) hs hs.s0 (by have:=hs.s1;omega) m0 m1,Zc5 (N:=N) hs hs.g0 (by have:=hs.g1;omega) m0 m1,chk]
   have hc:decide ((acc.length+[(⟨m,s.Heat*m/mx s,s.Silica*m/mx s,s.Gas*m/mx s⟩:Qaa)].length)*32≤140737488355328)=true:=by simp;omega
   rw[hc,cond_true,w64S (i:=i) (by omega),
    ih (i+1) _ (dlt hd hd' h) (by simp[ha]),hd',List.append_assoc]
   rfl
include h hN in
theorem Zby:Qh1 N ws=some true∧Qcj N ws=some true:=by
 have hl:=h.l2
 have hc:Qc1 N ws=some (ws.any fun x=>!btw x 0 1000):=by
  unfold Qc1 Qeo Qbc
  refine Qjj (F:=Qb5 N ws fun _=>some (-1)) (k:=fun _=>some (-1)) (q:=Qg0 N) (fun n y=>rfl) (fun x=>?_) rfl (by omega) (by omega)
  simp only[Qg0,Qkq,Qm8,Option.bind_some]
 constructor
 ·unfold Qh1
  rw[hc,Option.bind_some,Qw1]
  congr 1
  exact List.all_eq_true.2 fun x hx=>Qf3.2 (h.w x hx)
 ·have:Qcj N ws=some (ws.any fun x=>decide (x>0)):=by
   unfold Qcj Qen Qbc
   exact Qjj (F:=Qb4 N ws fun _=>some (-1)) (k:=fun _=>some (-1)) (q:=Qkp N) (fun n y=>rfl) (fun x=>rfl) rfl (by omega) (by omega)
  rw[this]
  congr 1
  obtain⟨x,hx,hp⟩:=h.some
  exact List.any_eq_true.2 ⟨x,hx,by simpa using hp⟩
include hs h hN in
theorem Zgw:Qku N s ws=some (Qhg s ws,Qj2 s ws,0):=by
 have hl:=h.l2
 obtain⟨w1,w2⟩:=Zby h hN
 have hK:=Qji hs h
 have hlen:(Qhg s ws).length=ws.length:=by unfold Qhg;rw[List.length_map,Qhd]
 unfold Qku
 simp only[Qbc,Qy4,Qpj.2 hs,Option.bind_some,Bool.not_true,cond_false,w1,w2,show decide ((ws.length:Int)>20)=false from by simp;omega,Zdk h hs.m0 hs.m1 hN]
 refine(Q8q hs _ (Qh9 s.Mass ws) (by rw[Qhd];exact hl) (Qs7 h hs.m0 hs.m1) N 0 [] (by rw[List.drop_zero,Qhd];omega) rfl).trans ?_
 rw[List.drop_zero,List.nil_append]
 show(Qlv N (Qhg s ws)).bind _=_
 rw[Zmq (by omega) hN,Option.bind_some,Qqg hK.v (by omega)]
 obtain⟨_,k1,k2,k3,k4,k5,k6,k7⟩:=hK
 have g1:=hs.h1
 have g2:=hs.s1
 have g3:=hs.g1
 have g4:=hs.m1
 have v:=Qov (Qji hs h).v
 have:=v.h0
 have:=v.s0
 have:=v.g0
 unfold Qj2 at *
 dsimp only at *
 rw[Qbg (x:=s.Heat-_) (by omega) (by omega),Qbg (x:=s.Silica-_) (by omega) (by omega),Qbg (x:=s.Gas-_) (by omega) (by omega)]
 rfl
end
end
section
open Go.RowKit
def pq (p:Qbn):Int×Int:=(p.Element,p.Outlet)
def Q6h (els:List Qaf) (i:Nat) (lv:Int) (u:List (Int×Int)) (p:Qbn):Bool:=
 btw p.Element 0 ((i:Int)-1)&&(match getI els p.Element with |some y=>btw p.Outlet 0 (outl y-1)&&decide (lv≤y.Level) |none=>false)&&!u.contains (pq p)
def Qjx (els:List Qaf) (i:Nat) (lv:Int):List (Int×Int)→List Qbn→Bool
 |_,[]=>true
 |u,p::l=>Q6h els i lv u p&&Qjx els i lv (u++[pq p]) l
def Qwl (n:Int) (els:List Qaf):Nat→List (Int×Int)→List Qaf→Bool
 |_,_,[]=>true
 |i,u,x::l=>btw x.Level 0 (n-1)&&Qjx els i x.Level u x.From&&Qwl n els (i+1) (u++x.From.map pq) l
def netB (n:GNet):Bool:=tabB n.Table&&btw n.Elements.length 1 16&&n.Elements.all Qij&&Qwl n.Table.length n.Elements 0 [] n.Elements
structure Qik (n:GNet):Prop where
 t:n.Table.length≤25
 e:n.Elements.length≤18
 x:∀x∈n.Elements,x.From.length≤25∧x.Weights.length≤25
theorem Zc0 {x:Qaf}(h:x.Weights.length≤25):0≤outl x∧outl x≤25:=by
 unfold outl
 split
 ·omega
 ·split<;>omega
theorem Zdx {els:List Qaf}{a:Int}{i:Nat}(h:btw a 0 ((i:Int)-1)=true) (hi:i≤els.length):∃y,getI els a=some y∧y∈els:=by
 obtain⟨h1,h2⟩:=Qf3.1 h
 have hlt:a.toNat<els.length:=by omega
 exact⟨els[a.toNat],by unfold getI;rw[if_pos h1,List.getElem?_eq_getElem hlt],List.getElem_mem hlt⟩
section
variable {N : Nat} {n : GNet} (hs : Qik n) (hN : 1001 ≤ N)
include hs hN
omit hN in
theorem Q8n {i:Nat}(hi:i<n.Elements.length) {x:Qaf}(hx:x.From.length≤25) (k:List (Int×Int)→Option Bool):∀(m j:Nat) (u:List (Int×Int)),(x.From.drop j).length<m →
  Qdl N n i k x m j u=bif Qjx n.Elements i x.Level u (x.From.drop j) then k (u++(x.From.drop j).map pq) else some false:=by
 intro m
 induction m with
 |zero=>intro j _ h;cases h
 |succ m ih=>
  intro j u h
  rw[Qdl]
  cases hd:x.From.drop j with
  |nil=>
   have:=Qbs hd
   simp[show ¬((j:Int)<x.From.length) from by omega,Qjx]
  |cons p l=>
   obtain⟨hg,hd',hlt⟩:=Qbf hd
   have e0:=hs.e
   simp only[dlI hlt,cond_true,Qbu hg,Option.bind_some,Qkd,Qjx,Q6h]
   rw[Qbg (x:=(i:Int)-1) (by omega) (by omega)]
   cases hb:btw p.Element 0 ((i:Int)-1) with
   |false=>rfl
   |true=>
    obtain⟨y,hy,hym⟩:=Zdx hb (Nat.le_of_lt hi)
    obtain⟨o0,o1⟩:=Zc0 (hs.x y hym).2
    simp only[Bool.not_true,cond_false,hy,Option.bind_some,Zm6,Bool.true_and]
    rw[Qbg (x:=outl y-1) (by omega) (by omega)]
    cases hc:btw p.Outlet 0 (outl y-1) with
    |false=>rfl
    |true=>
     simp only[Bool.not_true,cond_false,Bool.true_and]
     show(bif u.contains (pq p) then some false else _)=_
     cases hu:u.contains (pq p) with
     |true=>simp
     |false=>
      simp only[cond_false,Bool.not_false,Bool.and_true]
      by_cases hl:x.Level>y.Level
      ·rw[decide_eq_true hl,decide_eq_false (by omega)];rfl
      ·rw[decide_eq_false hl,decide_eq_true (by omega),cond_false,w64S (i:=j) (by omega),
        ih (j+1) _ (dlt hd hd' h),hd']
       have ea:addQ u (p.Element,p.Outlet)=u++[pq p]:=by
        unfold addQ
        rw[show u.contains (p.Element,p.Outlet)=false from hu];rfl
       rw[ea,Bool.true_and,List.map_cons,List.append_assoc]
       rfl
theorem Zej (k:Unit→Option Bool):∀(m i:Nat) (u:List (Int×Int)),(n.Elements.drop i).length<m →
  Qc5 N n k m i u=bif Qwl n.Table.length n.Elements i u (n.Elements.drop i) then k () else some false:=by
 intro m
 induction m with
 |zero=>intro i _ h;cases h
 |succ m ih=>
  intro i u h
  rw[Qc5]
  cases hd:n.Elements.drop i with
  |nil=>
   have:=Qbs hd
   simp[show ¬((i:Int)<n.Elements.length) from by omega,Qwl]
  |cons x l=>
   obtain⟨hg,hd',hlt⟩:=Qbf hd
   have e0:=hs.e
   have e1:=hs.t
   have hx:=hs.x x (List.mem_of_getElem? hg)
   simp only[dlI hlt,cond_true,Qbc,Qbu hg,Option.bind_some,Qkd,Qwl]
   rw[Qbg (x:=(n.Table.length:Int)-1) (by omega) (by omega)]
   cases hb:btw x.Level 0 ((n.Table.length:Int)-1) with
   |false=>rfl
   |true=>
    have:=Q8n (N:=N) hs hlt hx.1 (fun y9=>Qc5 N n k m (w64 ((i:Int)+1)) y9) N 0 u (by simp;omega)
    rw[List.drop_zero] at this
    simp only[Bool.not_true,cond_false,Bool.true_and]
    refine this.trans ?_
    cases Qjx n.Elements i x.Level u x.From with
    |false=>rfl
    |true=>
     rw[cond_true,w64S (i:=i) (by omega),ih (i+1) _ (dlt hd hd' h),hd',Bool.true_and]
theorem Zo6:Qed N n.Elements=some (n.Elements.all Qij):=by
 have e0:=hs.e
 have hc:Qbq N n.Elements=some (n.Elements.any fun x=>!Qij x):=by
  unfold Qbq Qb3 Qbc
  have gen:∀(m j:Nat),(n.Elements.drop j).length<m→(Qa3 N n.Elements (fun _=>some (-1)) m j).bind (fun x=>some (decide (x≥0)))=some ((n.Elements.drop j).any fun x=>!Qij x):=by
   intro m
   induction m with
   |zero=>intro j h;cases h
   |succ m ih=>
    intro j h
    rw[Qa3]
    cases hd:n.Elements.drop j with
    |nil=>
     have:=Qbs hd
     simp[show ¬((j:Int)<n.Elements.length) from by omega]
    |cons x l=>
     obtain⟨hg,hd',hlt⟩:=Qbf hd
     have hx:=hs.x x (List.mem_of_getElem? hg)
     simp only[dlI hlt,cond_true,Qbu hg,Option.bind_some,Qe8,Zfe (show x.Weights.length≤1000 by omega) hN,List.any_cons]
     cases Qij x with
     |false=>simp
     |true=>
      rw[Bool.not_true,cond_false,w64S (i:=j) (by omega),ih (j+1) (dlt hd hd' h),hd',Bool.false_or]
  have:=gen N 0 (by simp;omega)
  rw[List.drop_zero] at this
  exact this
 unfold Qed
 rw[hc,Option.bind_some,Qw1]
theorem Zdd:Qgp N n=some (netB n):=by
 have e0:=hs.e
 have e1:=hs.t
 unfold Qgp netB Qil
 simp only[Qbc,Q08 (show n.Table.length≤1000 by omega) hN,Option.bind_some,Qkd,Zo6 hs hN]
 cases tabB n.Table with
 |false=>rfl
 |true=>
  simp only[Bool.not_true,cond_false,Option.bind_some,Bool.true_and,show((0:Int) != 0)=false from rfl]
  cases btw n.Elements.length 1 16 with
  |false=>rfl
  |true=>
   cases n.Elements.all Qij with
   |false=>rfl
   |true=>
    have:=Zej hs hN (fun _=>some true) N 0 [] (by simp;omega)
    rw[List.drop_zero] at this
    simp only[Bool.not_true,cond_false,Bool.true_and]
    refine this.trans ?_
    cases Qwl n.Table.length n.Elements 0 [] n.Elements<;>rfl
omit hs in
theorem Zjm {l:List Qbn}(hl:l.length≤1000) (p:Qbn):Qk3 N l p=some ((l.map pq).contains (pq p)):=by
 unfold Qk3
 simp only[Qbc]
 have gen:∀(m j:Nat),(l.drop j).length<m→Qes N l (fun _=>some false) p m j=some (((l.drop j).map pq).contains (pq p)):=by
  intro m
  induction m with
  |zero=>intro j h;cases h
  |succ m ih=>
   intro j h
   rw[Qes]
   cases hd:l.drop j with
   |nil=>
    have:=Qbs hd
    simp[show ¬((j:Int)<l.length) from by omega]
   |cons x q=>
    obtain⟨hg,hd',hlt⟩:=Qbf hd
    have hx:(([x.Element,x.Outlet]:List Int)==[p.Element,p.Outlet])=(pq p==pq x):=by
     by_cases h1:x.Element=p.Element
     ·by_cases h2:x.Outlet=p.Outlet
      ·rw[h1,h2,beq_self_eq_true];simp[pq,h1,h2]
      ·rw[beq_eq_false_iff_ne.2 (by simp[h2]),beq_eq_false_iff_ne.2 (by simp only[pq,ne_eq,Prod.mk.injEq];omega)]
     ·rw[beq_eq_false_iff_ne.2 (by simp[h1]),beq_eq_false_iff_ne.2 (by simp only[pq,ne_eq,Prod.mk.injEq];omega)]
    simp only[dlI hlt,cond_true,Qbu hg,Option.bind_some,hx,List.map_cons,List.contains_cons]
    cases (pq p==pq x) with
    |true=>rfl
    |false=>rw[cond_false,w64S (i:=j) (by omega),ih (j+1) (dlt hd hd' h),hd',Bool.false_or]
 have:=gen N 0 (by simp;omega)
 rw[List.drop_zero] at this
 exact this
theorem Q8m {i:Nat}(hi:i<n.Elements.length) {x:Qaf}(hx:x.From.length≤25) (k:List Qbn→Option Bool):∀(m j:Nat) (u:List Qbn),(x.From.drop j).length<m→u.length≤25*i+j →
  Qet N n i k x m u j=bif Qjx n.Elements i x.Level (u.map pq) (x.From.drop j) then k (u++x.From.drop j) else some false:=by
 intro m
 induction m with
 |zero=>intro j _ h;cases h
 |succ m ih=>
  intro j u h hu
  rw[Qet]
  cases hd:x.From.drop j with
  |nil=>
   have:=Qbs hd
   simp[show ¬((j:Int)<x.From.length) from by omega,Qjx]
  |cons p l=>
   obtain⟨hg,hd',hlt⟩:=Qbf hd
   have e0:=hs.e
   simp only[dlI hlt,cond_true,Qbu hg,Option.bind_some,Q4b,Qjx,Q6h]
   rw[Qbg (x:=(i:Int)-1) (by omega) (by omega)]
   cases hb:btw p.Element 0 ((i:Int)-1) with
   |false=>rfl
   |true=>
    obtain⟨y,hy,hym⟩:=Zdx hb (Nat.le_of_lt hi)
    obtain⟨o0,o1⟩:=Zc0 (hs.x y hym).2
    simp only[Bool.not_true,cond_false,hy,Option.bind_some,Zm5,Bool.true_and]
    rw[Qbg (x:=outl y-1) (by omega) (by omega)]
    cases hc:btw p.Outlet 0 (outl y-1) with
    |false=>rfl
    |true=>
     simp only[Bool.not_true,cond_false,Bool.true_and]
     by_cases hl:x.Level>y.Level
     ·rw[decide_eq_true hl,decide_eq_false (show ¬x.Level≤y.Level by omega)];rfl
     ·rw[decide_eq_false hl,decide_eq_true (show x.Level≤y.Level by omega),cond_false,Zjm hN (by omega),Option.bind_some]
      cases hu':(u.map pq).contains (pq p) with
      |true=>simp
      |false=>
       simp only[cond_false,chk]
       rw[show decide ((u.length+[p].length)*16≤140737488355328)=true by simp;omega,cond_true,w64S (i:=j) (by omega),
        ih (j+1) _ (dlt hd hd' h) (by simp;omega),hd',List.map_append,List.append_assoc]
       rfl
def elsR (t:Int) (els:List Qaf):Nat→List (Int×Int)→List Qaf→Bool
 |_,_,[]=>true
 |i,u,x::l=>Qij x&&btw x.Level 0 (t-1)&&Qjx els i x.Level u x.From&&elsR t els (i+1) (u++x.From.map pq) l
omit hs hN in
theorem Zei (t:Int) (els:List Qaf):∀(l:List Qaf) (i:Nat) (u:List (Int×Int)),elsR t els i u l=(l.all Qij&&Qwl t els i u l)
 |[],_,_=>rfl
 |x::l,i,u=>by
  rw[elsR,Zei t els l,Qwl,List.all_cons]
  cases Qij x<;>cases btw x.Level 0 (t-1)<;>cases Qjx els i x.Level u x.From<;>cases l.all Qij<;>rfl
theorem Zeh (k:Unit→Option Bool):∀(m i:Nat) (u:List Qbn),(n.Elements.drop i).length<m→u.length≤25*i →
  Qdx N n k m u i=bif elsR n.Table.length n.Elements i (u.map pq) (n.Elements.drop i) then k () else some false:=by
 intro m
 induction m with
 |zero=>intro i _ h;cases h
 |succ m ih=>
  intro i u h hu
  rw[Qdx]
  cases hd:n.Elements.drop i with
  |nil=>
   have:=Qbs hd
   simp[show ¬((i:Int)<n.Elements.length) from by omega,elsR]
  |cons x l=>
   obtain⟨hg,hd',hlt⟩:=Qbf hd
   have e0:=hs.e
   have e1:=hs.t
   have hx:=hs.x x (List.mem_of_getElem? hg)
   simp only[dlI hlt,cond_true,Qbc,Qbu hg,Option.bind_some,Zfd (show x.Weights.length≤1000 by omega) hN,Q4b,elsR]
   rw[Qbg (x:=(n.Table.length:Int)-1) (by omega) (by omega)]
   cases Qij x with
   |false=>rfl
   |true=>
    cases hb:btw x.Level 0 ((n.Table.length:Int)-1) with
    |false=>rfl
    |true=>
     have:=Q8m hs hN hlt hx.1 (fun y9=>Qdx N n k m y9 (w64 ((i:Int)+1))) N 0 u (by simp;omega) (by omega)
     rw[List.drop_zero] at this
     simp only[Bool.not_true,cond_false,Bool.true_and]
     refine this.trans ?_
     cases Qjx n.Elements i x.Level (u.map pq) x.From with
     |false=>rfl
     |true=>
      rw[cond_true,w64S (i:=i) (by omega),ih (i+1) _ (dlt hd hd' h) (by simp;omega),hd',Bool.true_and,List.map_append]
theorem Zdc:Qje N n=some (netB n):=by
 have e0:=hs.e
 have e1:=hs.t
 unfold Qje netB
 simp only[Qbc,Zcq (show n.Table.length≤9223372036854775807 by omega) (show n.Table.length<N by omega),Option.bind_some]
 cases tabB n.Table with
 |false=>rfl
 |true=>
  simp only[Bool.not_true,cond_false,Bool.true_and]
  by_cases h1:(n.Elements.length:Int)<1
  ·rw[decide_eq_true h1,show btw n.Elements.length 1 16=false by unfold btw;rw[decide_eq_false (by omega)];rfl];rfl
  ·by_cases h2:(n.Elements.length:Int)>16
   ·rw[decide_eq_false h1,decide_eq_true h2,show btw n.Elements.length 1 16=false by unfold btw;rw[decide_eq_false (show ¬(n.Elements.length:Int)≤16 by omega),Bool.and_false]];rfl
   ·rw[decide_eq_false h1,decide_eq_false h2,Qf3.2 ⟨by omega,by omega⟩]
    have:=Zeh hs hN (fun _=>some true) N 0 [] (by simp;omega) (by simp)
    rw[List.drop_zero] at this
    simp only[cond_false,Bool.true_and]
    refine this.trans ?_
    rw[Zei]
    cases n.Elements.all Qij<;>cases h:Qwl n.Table.length n.Elements 0 [] n.Elements<;>simp[h]
end
theorem Zhj (N:Nat) (n:GNet) (k:Unit→Option Bool) (hl:(n.Elements.length:Int)≤9223372036854775807):∀(m i:Nat),(n.Elements.drop i).length<m →
  Qf2 N n k m i=bif (n.Elements.drop i).all (fun x=>decide (x.From.length≤25)&&decide (x.Weights.length≤25)) then k () else some false:=by
 intro m
 induction m with
 |zero=>intro i h;cases h
 |succ m ih=>
  intro i h
  rw[Qf2]
  cases hd:n.Elements.drop i with
  |nil=>
   have:=Qbs hd
   simp[show ¬((i:Int)<n.Elements.length) from by omega]
  |cons x l=>
   obtain⟨hg,hd',hlt⟩:=Qbf hd
   simp only[dlI hlt,cond_true,Qbu hg,Option.bind_some,List.all_cons]
   by_cases h1:(x.From.length:Int)>25
   ·rw[decide_eq_true h1,decide_eq_false (show ¬x.From.length≤25 by omega)];rfl
   ·by_cases h2:(x.Weights.length:Int)>25
    ·rw[decide_eq_false h1,decide_eq_true h2,decide_eq_false (show ¬x.Weights.length≤25 by omega)];simp
    ·rw[decide_eq_false h1,decide_eq_false h2,decide_eq_true (show x.From.length≤25 by omega),decide_eq_true (show x.Weights.length≤25 by omega),cond_false,cond_false,w64S (i:=i) (by omega),ih (i+1) (dlt hd hd' h),hd']
     rfl
theorem Zru {N:Nat}{n:GNet}{ws:List Qaa}(hl:(n.Elements.length:Int)≤9223372036854775807) (hN:n.Elements.length<N):(Qly N n ws=some false)∨(Qly N n ws=some true∧Qik n∧ws.length≤25):=by
 unfold Qly
 simp only[Qbc]
 have:=Zhj N n (fun _=>bif (decide ((n.Elements.length:Int)≤18)) then bif (decide ((n.Table.length:Int)≤25)) then some (decide ((ws.length:Int)≤25)) else some false else some false) hl N 0 (by simpa using hN)
 rw[List.drop_zero,show((0:Nat):Int)=0 from rfl] at this
 rw[this]
 cases ha:n.Elements.all (fun x=>decide (x.From.length≤25)&&decide (x.Weights.length≤25)) with
 |false=>exact .inl rfl
 |true=>
  rw[cond_true]
  by_cases h1:(n.Elements.length:Int)≤18
  ·by_cases h2:(n.Table.length:Int)≤25
   ·by_cases h3:(ws.length:Int)≤25
    ·refine .inr ⟨by rw[decide_eq_true h1,decide_eq_true h2,decide_eq_true h3];rfl,⟨by omega,by omega,fun x hx=>?_⟩,by omega⟩
     have:=List.all_eq_true.1 ha x hx
     simpa using this
    ·exact .inl (by rw[decide_eq_true h1,decide_eq_true h2,decide_eq_false h3];rfl)
   ·exact .inl (by rw[decide_eq_true h1,decide_eq_false h2];rfl)
  ·exact .inl (by rw[decide_eq_false h1];rfl)
theorem Zde (N:Nat) (x:Qaf) (k:List Qaf×List Qbn×List Int→Option GNet) (hl:x.From.length≤1000) (a:List Qaf) (w:List Int):∀(m j:Nat) (acc:List Qbn),(x.From.drop j).length<m→acc.length=j →
  Qf0 N x k m j a acc w=k (a,acc++x.From.drop j,w):=by
 intro m
 induction m with
 |zero=>intro j _ h;cases h
 |succ m ih=>
  intro j acc h ha
  rw[Qf0]
  cases hd:x.From.drop j with
  |nil=>
   have:=Qbs hd
   simp[show ¬((j:Int)<x.From.length) from by omega]
  |cons p l=>
   obtain⟨hg,hd',hlt⟩:=Qbf hd
   simp only[dlI hlt,cond_true,Qbu hg,Option.bind_some,chk]
   rw[show decide ((acc.length+[p].length)*16≤140737488355328)=true by simp;omega,cond_true,w64S (i:=j) (by omega),
    ih (j+1) _ (dlt hd hd' h) (by simp[ha]),hd',List.append_assoc]
   rfl
theorem Zha {N:Nat}{n:GNet}(hs:Qik n) (hN:1001≤N) (k:List Qaf→Option GNet):∀(m i:Nat) (acc:List Qaf),(n.Elements.drop i).length<m→acc.length=i →
  Qf1 N n k m i acc=k (acc++n.Elements.drop i):=by
 intro m
 induction m with
 |zero=>intro i _ h;cases h
 |succ m ih=>
  intro i acc h ha
  rw[Qf1]
  cases hd:n.Elements.drop i with
  |nil=>
   have:=Qbs hd
   simp[show ¬((i:Int)<n.Elements.length) from by omega]
  |cons x l=>
   obtain⟨hg,hd',hlt⟩:=Qbf hd
   have e0:=hs.e
   have hx:=hs.x x (List.mem_of_getElem? hg)
   simp only[dlI hlt,cond_true,Qbu hg,Option.bind_some,chk,Qbc]
   rw[show decide ((([]:List Int).length+x.Weights.length)*8≤140737488355328)=true by simp;omega,cond_true]
   refine(Zde N x _ (by omega) acc ([]++x.Weights) N 0 [] (by simp;omega) rfl).trans ?_
   dsimp only
   rw[List.drop_zero,List.nil_append,List.nil_append,show decide ((acc.length+[(⟨x.Kind,x.From,x.Level,x.Amount,x.Wide,x.Narrow,x.Weights⟩:Qaf)].length)*88≤140737488355328)=true by simp;omega,cond_true,w64S (i:=i) (by omega),
    ih (i+1) _ (dlt hd hd' h) (by simp[ha]),hd',List.append_assoc]
   rfl
theorem Zrp {N:Nat}{n:GNet}(hs:Qik n) (hN:1001≤N):Qlx N n=some n:=by
 have e0:=hs.e
 have e1:=hs.t
 unfold Qlx
 rw[Zgo (by omega) hN,Option.bind_some,Qbc]
 refine(Zha hs hN _ N 0 [] (by simp;omega) rfl).trans ?_
 rw[List.drop_zero,List.nil_append]
theorem Znd (N:Nat) {l:List Int}(hl:l.length≤1000):Qmc N l=some l:=by
 unfold Qmc chk
 rw[show decide ((([]:List Int).length+l.length)*8≤140737488355328)=true by simp;omega,cond_true,List.nil_append]
end
section
open Go.RowKit
def Qqy {α:Type}(i:Nat):Nat→List α→List ((Int×Int)×α)
 |_,[]=>[]
 |j,a::l=>(((i:Int),(j:Int)),a)::Qqy i (j+1) l
def Qig {α:Type}:Nat→List (List α)→List ((Int×Int)×α)
 |_,[]=>[]
 |i,r::o=>Qqy i 0 r++Qig (i+1) o
def Qh6 {α:Type}(f:α→Int) (U:List (Int×Int)) (l:List ((Int×Int)×α)):Int:=((l.filter fun x=>!U.contains x.1).map fun x=>f x.2).sum
section
variable {α : Type}
theorem Qrz {i:Nat}{a b:Int}{s:α}:∀{l:List α}{j:Nat},((a,b),s)∈Qqy i j l↔a=i∧(j:Int)≤b∧l[(b-j).toNat]? = some s
 |[],j=>by simp[Qqy]
 |x::l,j=>by
  rw[Qqy,List.mem_cons,Qrz (l:=l) (j:=j+1)]
  constructor
  ·rintro (h |⟨h1,h2,h3⟩)
   ·simp only[Prod.mk.injEq] at h
    obtain⟨⟨rfl,rfl⟩,rfl⟩:=h
    exact⟨rfl,Int.le_refl _,by simp⟩
   ·refine⟨h1,by omega,?_⟩
    rw[show(b-(j:Int)).toNat=(b-((j+1:Nat):Int)).toNat+1 by omega]
    simpa using h3
  ·rintro ⟨h1,h2,h3⟩
   by_cases e:b=j
   ·subst e;subst h1
    simp at h3
    exact .inl (by rw[h3])
   ·refine .inr ⟨h1,by omega,?_⟩
    rw[show(b-(j:Int)).toNat=(b-((j+1:Nat):Int)).toNat+1 by omega] at h3
    simpa using h3
theorem Qpa {a b:Int}{s:α}:∀{o:List (List α)}{i:Nat},((a,b),s)∈Qig i o↔(i:Int)≤a∧0≤b∧∃r,o[(a-i).toNat]? = some r∧r[b.toNat]? = some s
 |[],i=>by simp[Qig]
 |r::o,i=>by
  rw[Qig,List.mem_append,Qrz,Qpa (o:=o) (i:=i+1)]
  constructor
  ·rintro (⟨rfl,h2,h3⟩ |⟨h1,h2,q,h3,h4⟩)
   ·exact⟨Int.le_refl _,by omega,r,by simp,by simpa using h3⟩
   ·refine⟨by omega,h2,q,?_,h4⟩
    rw[show(a-(i:Int)).toNat=(a-((i+1:Nat):Int)).toNat+1 by omega]
    simpa using h3
  ·rintro ⟨h1,h2,q,h3,h4⟩
   by_cases e:a=i
   ·subst e
    simp at h3
    subst h3
    exact .inl ⟨rfl,by omega,by simpa using h4⟩
   ·refine .inr ⟨by omega,h2,q,?_,h4⟩
    rw[show(a-(i:Int)).toNat=(a-((i+1:Nat):Int)).toNat+1 by omega] at h3
    simpa using h3
theorem Qwi {i:Nat}:∀(l:List α) (j:Nat),((Qqy i j l).map fun x=>x.1).Nodup
 |[],j=>by simp[Qqy]
 |x::l,j=>by
  rw[Qqy,List.map_cons,List.nodup_cons]
  refine⟨fun h=>?_,Qwi l (j+1)⟩
  obtain⟨⟨⟨a,b⟩,s⟩,h1,h2⟩:=List.mem_map.1 h
  have:=(Qrz.1 h1).2.1
  simp only[Prod.mk.injEq] at h2
  omega
theorem Qwj:∀(o:List (List α)) (i:Nat),((Qig i o).map fun x=>x.1).Nodup
 |[],i=>by simp[Qig]
 |r::o,i=>by
  rw[Qig,List.map_append,List.nodup_append]
  refine⟨Qwi r 0,Qwj o (i+1),fun x hx y hy=>?_⟩
  obtain⟨⟨⟨a,b⟩,s⟩,h1,rfl⟩:=List.mem_map.1 hx
  obtain⟨⟨⟨a',b'⟩,s'⟩,h2,rfl⟩:=List.mem_map.1 hy
  have h3:=(Qrz.1 h1).1
  have h4:=(Qpa.1 h2).1
  intro e
  simp only[Prod.mk.injEq] at e
  omega
theorem Qty:∀(o o':List (List α)) (i:Nat),Qig i (o++o')=Qig i o++Qig (i+o.length) o'
 |[],o',i=>by simp[Qig]
 |r::o,o',i=>by
  rw[List.cons_append,Qig,Qty o o' (i+1),Qig,List.append_assoc,List.length_cons,show i+1+o.length=i+(o.length+1) by omega]
theorem Q1w (f:α→Int) (U:List (Int×Int)) (l l':List ((Int×Int)×α)):Qh6 f U (l++l')=Qh6 f U l+Qh6 f U l':=by
 simp[Qh6,List.filter_append]
theorem Qv1 {f:α→Int}{U V:List (Int×Int)}{l:List ((Int×Int)×α)}(h:∀x∈l,(x.1∈U↔x.1∈V)):Qh6 f U l=Qh6 f V l:=by
 unfold Qh6
 have:(l.filter fun x=>!U.contains x.1)=l.filter fun x=>!V.contains x.1:=List.filter_congr fun x hx=>by
  have:=h x hx
  by_cases h1:x.1∈U
  ·have h2:=this.1 h1
   simp[h1,h2]
  ·have h2:¬x.1∈V:=fun h=>h1 (this.2 h)
   simp[h1,h2]
 rw[this]
theorem Qxv (f:α→Int) {U:List (Int×Int)}{p:Int×Int}{s:α}:∀{l:List ((Int×Int)×α)},(l.map fun x=>x.1).Nodup→(p,s)∈l→p∉U→Qh6 f (p::U) l=Qh6 f U l-f s
 |[],_,h,_=>by simp at h
 |x::l,hn,h,hp=>by
  rw[List.map_cons,List.nodup_cons] at hn
  have e:∀V,Qh6 f V (x::l)=(if x.1∈V then 0 else f x.2)+Qh6 f V l:=fun V=>by
   unfold Qh6
   by_cases hv:x.1∈V<;>simp[hv]
  rw[e,e]
  rcases List.mem_cons.1 h with h |h
  ·subst h
   rw[if_pos (by simp),if_neg hp]
   have:Qh6 f (p::U) l=Qh6 f U l:=Qv1 fun y hy=>by
    rw[List.mem_cons]
    refine⟨fun h=>h.resolve_left fun e=>hn.1 ?_,.inr⟩
    rw[←e]
    exact List.mem_map.2 ⟨y,hy,rfl⟩
   rw[this]
   dsimp only
   omega
  ·rw[Qxv f hn.2 h hp]
   have hx:x.1≠p:=fun e=>hn.1 (by rw[e];exact List.mem_map.2 ⟨_,h,rfl⟩)
   have:(x.1∈p::U)↔x.1∈U:=by simp[hx]
   by_cases hv:x.1∈U
   ·rw[if_pos (this.2 hv),if_pos hv];omega
   ·rw[if_neg (fun h=>hv (this.1 h)),if_neg hv];omega
theorem Qv0 (f:α→Int) {l:List ((Int×Int)×α)}(hl:(l.map fun x=>x.1).Nodup):∀(P:List (Int×Int)) (S:List α) (U:List (Int×Int)),P.length=S.length→(∀(i:Nat) p s,P[i]? = some p→S[i]? = some s→(p,s)∈l)→P.Nodup→(∀p∈P,p∉U) →
  Qh6 f (P++U) l=Qh6 f U l-(S.map f).sum
 |[],[],U,_,_,_,_=>by simp
 |p::P,s::S,U,hlen,hm,hn,hu=>by
  rw[List.nodup_cons] at hn
  have h1:=Qv0 f hl P S U (by simpa using hlen) (fun i q t h1 h2=>hm (i+1) q t (by simpa using h1) (by simpa using h2)) hn.2 fun q hq=>hu q (List.mem_cons_of_mem _ hq)
  rw[List.cons_append,Qxv f hl (hm 0 p s rfl rfl),h1]
  ·simp only[List.map_cons,List.sum_cons];omega
  ·intro h
   rcases List.mem_append.1 h with h |h
   ·exact hn.1 h
   ·exact hu p List.mem_cons_self h
 |[],_::_,_,h,_,_,_=>by simp at h
 |_::_,[],_,h,_,_,_=>by simp at h
theorem Q1v (f:α→Int) {U:List (Int×Int)}{i:Nat}(hU:∀p∈U,p.1≠i):∀(r:List α) (j:Nat),Qh6 f U (Qqy i j r)=(r.map f).sum
 |[],j=>rfl
 |x::r,j=>by
  have hx:((i:Int),(j:Int))∉U:=fun h=>hU _ h rfl
  have:Qh6 f U (Qqy i j (x::r))=f x+Qh6 f U (Qqy i (j+1) r):=by
   unfold Qh6
   rw[Qqy,List.filter_cons,if_pos (by simpa using hx),List.map_cons,List.sum_cons]
  rw[this,Q1v f hU r (j+1),List.map_cons,List.sum_cons]
theorem Qts {f:α→Int}{U:List (Int×Int)}:∀{l:List ((Int×Int)×α)},(∀x∈l,0≤f x.2)→0≤Qh6 f U l
 |[],_=>by simp[Qh6]
 |x::l,h=>by
  have h1:=Qts (U:=U) fun y hy=>h y (List.mem_cons_of_mem x hy)
  have h2:=h x List.mem_cons_self
  unfold Qh6 at h1 ⊢
  rw[List.filter_cons]
  split
  ·rw[List.map_cons,List.sum_cons];omega
  ·exact h1
theorem Q2d (i:Nat) (r:List α):Qig i [r]=Qqy i 0 r:=by simp[Qig]
end
end
section
open Go.RowKit
structure NetV (n:GNet):Prop where
 tab:tabB n.Table=true
 len:1≤n.Elements.length∧n.Elements.length≤16
 alone:∀x∈n.Elements,Qij x=true
 level:∀x∈n.Elements,0≤x.Level∧x.Level≤(n.Table.length:Int)-1
 port:∀(i:Nat) x p,n.Elements[i]? = some x→p∈x.From→0≤p.Element∧p.Element<i∧∃y,n.Elements[p.Element.toNat]? = some y∧0≤p.Outlet∧p.Outlet<outl y∧x.Level≤y.Level
 dist:(n.Elements.flatMap fun x=>x.From.map pq).Nodup
theorem Qvu {els:List Qaf}{i:Nat}{lv:Int}:∀{l:List Qbn}{u:List (Int×Int)},Qjx els i lv u l=true→u.Nodup →
  (u++l.map pq).Nodup∧∀p∈l,0≤p.Element∧p.Element<i∧∃y,els[p.Element.toNat]? = some y∧0≤p.Outlet∧p.Outlet<outl y∧lv≤y.Level
 |[],u,_,hu=>⟨by simpa using hu,by simp⟩
 |p::l,u,h,hu=>by
  rw[Qjx,Bool.and_eq_true] at h
  obtain⟨h1,h2⟩:=h
  rw[Q6h,Bool.and_eq_true,Bool.and_eq_true] at h1
  obtain⟨⟨h3,h4⟩,h5⟩:=h1
  have hn:pq p∉u:=by simpa using h5
  have hu':(u++[pq p]).Nodup:=by
   rw[List.nodup_append]
   exact⟨hu,by simp,fun a ha b hb=>by simp at hb;subst hb;exact fun e=>hn (e▸ha)⟩
  obtain⟨k1,k2⟩:=Qvu h2 hu'
  refine⟨by rw[List.map_cons];rw[List.append_assoc] at k1;exact k1,fun q hq=>?_⟩
  rcases List.mem_cons.1 hq with rfl |hq
  ·obtain⟨b1,b2⟩:=Qf3.1 h3
   cases hg:getI els q.Element with
   |none=>rw[hg] at h4;cases h4
   |some y=>
    rw[hg] at h4
    simp only[Bool.and_eq_true,decide_eq_true_eq] at h4
    obtain⟨c1,c2⟩:=Qf3.1 h4.1
    exact⟨b1,by omega,y,(Q18 hg).2,c1,by omega,h4.2⟩
  ·exact k2 q hq
theorem Q2e {t:Int}{els:List Qaf}:∀{l:List Qaf}{i:Nat}{u:List (Int×Int)},Qwl t els i u l=true→u.Nodup →
  (u++l.flatMap fun x=>x.From.map pq).Nodup∧(∀x∈l,0≤x.Level∧x.Level≤t-1)∧∀(j:Nat) x p,l[j]? = some x→p∈x.From→0≤p.Element∧p.Element<(i:Int)+j∧∃y,els[p.Element.toNat]? = some y∧0≤p.Outlet∧p.Outlet<outl y∧x.Level≤y.Level
 |[],i,u,_,hu=>⟨by simpa using hu,by simp,fun j x p h=>by simp at h⟩
 |x::l,i,u,h,hu=>by
  rw[Qwl,Bool.and_eq_true,Bool.and_eq_true] at h
  obtain⟨⟨h1,h2⟩,h3⟩:=h
  obtain⟨k1,k2⟩:=Qvu h2 hu
  obtain⟨m1,m2,m3⟩:=Q2e h3 k1
  refine⟨by rw[List.flatMap_cons];rw[List.append_assoc] at m1;exact m1,fun y hy=>?_,fun j y p hj hp=>?_⟩
  ·rcases List.mem_cons.1 hy with rfl |hy
   ·exact Qf3.1 h1
   ·exact m2 y hy
  ·cases j with
   |zero=>
    simp at hj
    subst hj
    obtain⟨a,b,c⟩:=k2 p hp
    exact⟨a,by omega,c⟩
   |succ j=>
    obtain⟨a,b,c⟩:=m3 j y p (by simpa using hj) hp
    exact⟨a,by omega,c⟩
theorem Qv3 {n:GNet}(h:netB n=true):NetV n:=by
 unfold netB at h
 simp only[Bool.and_eq_true] at h
 obtain⟨⟨⟨h1,h2⟩,h3⟩,h4⟩:=h
 obtain⟨k1,k2,k3⟩:=Q2e h4 List.nodup_nil
 have:=Qf3.1 h2
 exact⟨h1,⟨by omega,by omega⟩,fun x hx=>List.all_eq_true.1 h3 x hx,k2,fun i x p hi hp=>by
  obtain⟨a,b,c⟩:=k3 i x p hi hp
  exact⟨a,by omega,c⟩,by simpa using k1⟩
def Q1p:Nat→List Qaf→List Qbn
 |_,[]=>[]
 |i,x::l=>(List.range (outl x).toNat).map (fun k:Nat=>(⟨(i:Int),(k:Int)⟩:Qbn))++Q1p (i+1) l
def Zss (n:GNet):List (Int×Int):=n.Elements.flatMap fun x=>x.From.map pq
def Zop (n:GNet):List Qbn:=(Q1p 0 n.Elements).filter fun p=>!(Zss n).contains (pq p)
section
variable {N : Nat} {n : GNet} (hs : Qik n) (hv : NetV n) (hN : 1001 ≤ N)
include hs hN in
include hs hv hN in
include hs hN in
include hs hv hN in
end
def stB (n:GNet) (s:List Int):Bool:=decide (s.length=n.Elements.length)&&s.all fun x=>btw x 0 1000000000000
theorem Zce {N:Nat}{n:GNet}(hs:Qik n) (hN:1001≤N) {s:List Int}(hl:s.length≤1000):Qjg N n s=some (bif netB n&&stB n s then 0 else 1):=by
 have hc:Qc2 N s=some (s.any fun x=>!btw x 0 1000000000000):=by
  unfold Qc2 Qep Qbc
  refine Qjj (F:=Qb6 N s fun _=>some (-1)) (k:=fun _=>some (-1)) (q:=Qho N) (fun n y=>rfl) (fun x=>?_) rfl (by omega) (by omega)
  simp only[Qho,Qkr,Qkd,Option.bind_some]
 unfold Qjg Qjz stB
 rw[Zdd hs hN,hc]
 simp only[Option.bind_some,Qw1]
 cases netB n with
 |false=>rfl
 |true=>
  by_cases h1:s.length=n.Elements.length
  ·rw[decide_eq_true h1,show((s.length:Int) != (n.Elements.length:Int))=false by rw[bne_eq_false_iff_eq];omega]
   cases s.all fun x=>btw x 0 1000000000000<;>rfl
  ·rw[decide_eq_false h1,show((s.length:Int) != (n.Elements.length:Int))=true by rw[bne_iff_ne];omega];rfl
def widI (x:Qaf) (d:Int):Int:=if x.Wide-d/x.Narrow>0 then x.Wide-d/x.Narrow else 0
theorem Zkw {x:Qaf}(hx:Qij x=true) {d:Int}(h0:0≤d) (h1:d≤9000000000000000000):(x.Narrow != 0)=true∧d.tdiv x.Narrow=d/x.Narrow∧0≤d/x.Narrow∧d/x.Narrow≤d∧w64 (d/x.Narrow)=d/x.Narrow∧w64 (x.Wide-d/x.Narrow)=x.Wide-d/x.Narrow∧0≤x.Wide∧x.Wide≤1000000∧1≤x.Narrow:=by
 unfold Qij at hx
 simp only[Bool.and_eq_true] at hx
 obtain⟨⟨⟨⟨⟨_,hw⟩,hn⟩,_⟩,_⟩,_⟩:=hx
 obtain⟨w0,w1⟩:=Qf3.1 hw
 obtain⟨n0,n1⟩:=Qf3.1 hn
 have a:=Int.ediv_nonneg h0 (show 0≤x.Narrow by omega)
 have b:=Int.ediv_le_self x.Narrow h0
 exact⟨by rw[bne_iff_ne];omega,Int.tdiv_eq_ediv_of_nonneg h0,a,b,Qbg (by omega) (by omega),Qbg (by omega) (by omega),w0,w1,n0⟩
theorem Zbz (N:Nat) {x:Qaf}(hx:Qij x=true) {d:Int}(h0:0≤d) (h1:d≤9000000000000000000):Qgq N x d=some (widI x d):=by
 obtain⟨a,b,c,e,f,g,_⟩:=Zkw hx h0 h1
 unfold Qgq widI
 rw[a,b,f,g]
 rfl
end
section
open Go.RowKit
def zs:Qaa:=⟨0,0,0,0⟩
def Qe3 (t:List GRow) (l:Int):GRow:=(getI t l).getD ⟨0,0,0,0,0⟩
def Qn4 (x:Qaf) (s:Qaa):Int:=if s.Heat<x.Amount then s.Heat else x.Amount
def actE (t:List GRow) (x:Qaf) (s:Qaa):List Qaa×Qa1×Int:=
 if x.Kind=3 then([⟨s.Mass,s.Heat-Qn4 x s,s.Silica,s.Gas⟩],⟨Qn4 x s,0,0,0⟩,0)
 else if x.Kind=4 then
  if x.Amount=0 then([(flG (Qe3 t x.Level) s).Steam,(flG (Qe3 t x.Level) s).Water],⟨0,0,0,(flG (Qe3 t x.Level) s).Scale⟩,(flG (Qe3 t x.Level) s).Steam.Mass)
  else([totS [(flG (Qe3 t x.Level) s).Steam,(Qhg (flG (Qe3 t x.Level) s).Water [1000-x.Amount,x.Amount]).getD 1 zs],(Qhg (flG (Qe3 t x.Level) s).Water [1000-x.Amount,x.Amount]).getD 0 zs],
   ⟨(Qj2 (flG (Qe3 t x.Level) s).Water [1000-x.Amount,x.Amount]).Heat,(Qj2 (flG (Qe3 t x.Level) s).Water [1000-x.Amount,x.Amount]).Silica,(Qj2 (flG (Qe3 t x.Level) s).Water [1000-x.Amount,x.Amount]).Gas,(flG (Qe3 t x.Level) s).Scale⟩,(flG (Qe3 t x.Level) s).Steam.Mass)
 else if x.Kind=5 then(Qhg s x.Weights,⟨(Qj2 s x.Weights).Heat,(Qj2 s x.Weights).Silica,(Qj2 s x.Weights).Gas,0⟩,0)
 else([s],⟨0,0,0,0⟩,0)
structure Zo7 (x:Qaf) (s:Qaa) (a:List Qaa×Qa1×Int):Prop where
 v:∀y∈a.1,StrV y
 len:(a.1.length:Int)=outl x
 m:(totS a.1).Mass=s.Mass
 h:(totS a.1).Heat+a.2.1.Heat=s.Heat
 q:(totS a.1).Silica+a.2.1.Silica+a.2.1.Scale=s.Silica
 g:(totS a.1).Gas+a.2.1.Gas=s.Gas
 h0:0≤a.2.1.Heat
 q0:0≤a.2.1.Silica
 g0:0≤a.2.1.Gas
 c0:0≤a.2.1.Scale
 t0:0≤a.2.2
 t1:a.2.2≤1000000
structure Zlb (x:Qaf):Prop where
 k:1≤x.Kind∧x.Kind≤6
 well:x.Kind=1→x.From=[]
 a3:x.Kind=3→0≤x.Amount
 a4:x.Kind=4→0≤x.Amount∧x.Amount≤1000
 w5:x.Kind=5→WtsV x.Weights
theorem Qpg {x:Qaf}(h:Qij x=true):Zlb x:=by
 unfold Qij at h
 simp only[Bool.and_eq_true] at h
 obtain⟨⟨⟨⟨⟨h1,_⟩,_⟩,h4⟩,h5⟩,h6⟩:=h
 refine⟨Qf3.1 h1,fun e=>?_,fun e=>?_,fun e=>?_,fun e=>?_⟩
 ·rw[e] at h4
  obtain⟨_,h7⟩:=Qf3.1 h4
  rw[if_pos rfl] at h7
  exact List.length_eq_zero_iff.1 (by omega)
 ·rw[e] at h5
  have:=Qf3.1 h5
  exact this.1
 ·rw[e] at h5
  have:=Qf3.1 h5
  simpa using this
 ·rw[e] at h6
  exact Zmb (by simpa using h6)
theorem Q3p {a:Int}(h0:0<a) (h1:a≤1000):WtsV [1000-a,a]:=
 ⟨by simp,by simp,fun x hx=>by simp at hx;rcases hx with rfl |rfl<;>omega,⟨a,by simp,h0⟩⟩
theorem Qvc {s:Qaa}{a b:Int}:∃p q,Qhg s [a,b]=[p,q]:=by
 have:(Qhg s [a,b]).length=2:=by unfold Qhg;rw[List.length_map,Qhd];rfl
 match h:Qhg s [a,b],this with
 |[p,q],_=>exact⟨p,q,rfl⟩
theorem Q7p {t:List GRow}(ht:tabB t=true) {x:Qaf}(hx:Zlb x) (hl:0≤x.Level∧x.Level≤(t.length:Int)-1) {s:Qaa}(hs:StrV s):Zo7 x s (actE t x s):=by
 have hs':=hs
 obtain⟨a1,a2,a3,a4,a5,a6,a7,a8⟩:=hs'
 unfold actE
 by_cases h3:x.Kind=3
 ·rw[if_pos h3]
  have hc:0≤Qn4 x s∧Qn4 x s≤s.Heat:=by
   have:=hx.a3 h3
   unfold Qn4;split<;>omega
  refine⟨fun y hy=>?_,?_,?_,?_,?_,?_,?_,?_,?_,?_,?_,?_⟩
  ·simp at hy;subst hy
   exact⟨a1,a2,by dsimp only;omega,by dsimp only;omega,a5,a6,a7,a8⟩
  ·simp[outl,h3]
  all_goals (try rw[Qnr])
  all_goals (dsimp only;omega)
 ·rw[if_neg h3]
  by_cases h4:x.Kind=4
  ·rw[if_pos h4]
   have hrow:=(Q6d ht (Qf3.2 hl)).2
   have hk:=Qz2 (r:=Qe3 t x.Level) hrow hs
   generalize flG (Qe3 t x.Level) s=p at hk
   obtain⟨k1,k2,k3,k4,k5,k6,k7,k8⟩:=hk
   have k1':=k1
   obtain⟨b1,b2,b3,b4,b5,b6,b7,b8⟩:=k1'
   have k2':=k2
   obtain⟨c1,c2,c3,c4,c5,c6,c7,c8⟩:=k2'
   by_cases h0:x.Amount=0
   ·rw[if_pos h0]
    refine⟨fun y hy=>?_,?_,?_,?_,?_,?_,?_,?_,?_,?_,?_,?_⟩
    ·simp at hy;rcases hy with rfl |rfl<;>assumption
    ·simp[outl,h4]
    all_goals (try rw[Qm9,Qnr])
    all_goals (dsimp only;omega)
   ·rw[if_neg h0]
    have ha:=hx.a4 h4
    have hw:=Q3p (a:=x.Amount) (by omega) ha.2
    obtain⟨u,v,hp⟩:=Qvc (s:=p.Water) (a:=1000-x.Amount) (b:=x.Amount)
    have hK:=Qji k2 hw
    rw[hp] at hK ⊢
    simp only[show([u,v]:List Qaa).getD 1 zs=v from rfl,show([u,v]:List Qaa).getD 0 zs=u from rfl]
    generalize Qj2 p.Water [1000-x.Amount,x.Amount]=L at hK ⊢
    obtain⟨d0,d1,d2,d3,d4,d5,d6,d7⟩:=hK
    have hu:=d0 u (by simp)
    have hv:=d0 v (by simp)
    rw[Qm9,Qnr] at d1 d2 d3 d4
    dsimp only at d1 d2 d3 d4
    obtain⟨e1,e2,e3,e4,e5,e6,e7,e8⟩:=hu
    obtain⟨f1,f2,f3,f4,f5,f6,f7,f8⟩:=hv
    have et:totS [p.Steam,v]=⟨p.Steam.Mass+v.Mass,p.Steam.Heat+v.Heat,p.Steam.Silica+v.Silica,p.Steam.Gas+v.Gas⟩:=by rw[Qm9,Qnr]
    rw[et]
    refine⟨fun y hy=>?_,?_,?_,?_,?_,?_,?_,?_,?_,?_,?_,?_⟩
    ·simp at hy
     rcases hy with rfl |rfl
     ·refine⟨?_,?_,?_,?_,?_,?_,?_,?_⟩<;>dsimp only<;>omega
     ·exact⟨e1,e2,e3,e4,e5,e6,e7,e8⟩
    ·simp[outl,h4]
    all_goals (try rw[Qm9,Qnr])
    all_goals (dsimp only;omega)
  ·rw[if_neg h4]
   by_cases h5:x.Kind=5
   ·rw[if_pos h5]
    have hw:=hx.w5 h5
    have hK:=Qji hs hw
    have hlen:(Qhg s x.Weights).length=x.Weights.length:=by unfold Qhg;rw[List.length_map,Qhd]
    generalize Qhg s x.Weights=o at hK hlen ⊢
    generalize Qj2 s x.Weights=L at hK ⊢
    obtain⟨d0,d1,d2,d3,d4,d5,d6,d7⟩:=hK
    refine⟨d0,by simp[outl,h5,hlen],d1,d2,?_,d4,d5,d6,d7,?_,?_,?_⟩<;>dsimp only<;>omega
   ·rw[if_neg h5]
    refine⟨fun y hy=>?_,?_,?_,?_,?_,?_,?_,?_,?_,?_,?_,?_⟩
    ·simp at hy;subst hy;exact hs
    ·simp[outl,h4,h5]
    all_goals (try rw[Qnr])
    all_goals (dsimp only;omega)
def Qg6 (o:List (List Qaa)) (p:Qbn):Qaa:=((o.getD p.Element.toNat []).getD p.Outlet.toNat zs)
def insE (o:List (List Qaa)) (ws:List Qaa) (x:Qaf):List Qaa:=if x.Kind=1 then ws.take 1 else x.From.map (Qg6 o)
def Qsp (t:List GRow):List (Qaf×Int)→List Qaa→List (List Qaa)→List Qa1→List Int→Int→Nat⊕(List (List Qaa)×List Qa1×List Int×Int)
 |[],_,o,ls,ss,y=>.inr (o,ls,ss,y)
 |(x,d)::l,ws,o,ls,ss,y=>
  if (totS (insE o ws x)).Mass>widI x d then .inl o.length
  else Qsp t l (if x.Kind=1 then ws.drop 1 else ws) (o++[(actE t x (totS (insE o ws x))).1]) (ls++[(actE t x (totS (insE o ws x))).2.1]) (ss++[d+(actE t x (totS (insE o ws x))).2.1.Scale]) (y+(actE t x (totS (insE o ws x))).2.2)
def Qkb (n:GNet) (i:Nat):List (Int×Int):=(n.Elements.take i).flatMap fun x=>x.From.map pq
def wcn (n:GNet) (i:Nat):Nat:=((n.Elements.take i).filter fun x=>decide (x.Kind=1)).length
structure FedV (n:GNet) (ws:List Qaa):Prop where
 len:ws.length=wcn n n.Elements.length
 v:∀s∈ws,StrV s
 m:(totS ws).Mass≤1000000
 g:(totS ws).Gas≤1000000000
structure InvT (n:GNet) (ws:List Qaa) (i:Nat) (o:List (List Qaa)) (ls:List Qa1):Prop where
 lo:o.length=i
 ll:ls.length=i
 rows:∀(k:Nat) y r,n.Elements[k]? = some y→o[k]? = some r→(r.length:Int)=outl y
 v:∀r∈o,∀s∈r,StrV s
 m:Qh6 (fun s=>s.Mass) (Qkb n i) (Qig 0 o)=(totS (ws.take (wcn n i))).Mass
 h:Qh6 (fun s=>s.Heat) (Qkb n i) (Qig 0 o)+(ls.map fun l=>l.Heat).sum=(totS (ws.take (wcn n i))).Heat
 q:Qh6 (fun s=>s.Silica) (Qkb n i) (Qig 0 o)+(ls.map fun l=>l.Silica).sum+(ls.map fun l=>l.Scale).sum=(totS (ws.take (wcn n i))).Silica
 g:Qh6 (fun s=>s.Gas) (Qkb n i) (Qig 0 o)+(ls.map fun l=>l.Gas).sum=(totS (ws.take (wcn n i))).Gas
 l0:∀l∈ls,0≤l.Heat∧0≤l.Silica∧0≤l.Gas∧0≤l.Scale
theorem Qwb (n:GNet) (ws:List Qaa):InvT n ws 0 [] []:=
 ⟨rfl,rfl,fun k y r _ h=>by simp at h,fun r h=>by simp at h,by simp[Qh6,Qig,wcn,totS],by simp[Qh6,Qig,wcn,totS],by simp[Qh6,Qig,wcn,totS],by simp[Qh6,Qig,wcn,totS],fun l h=>by simp at h⟩
theorem Qmt {α:Type}{l:List α}{i:Nat}{x:α}(h:l[i]? = some x):l.take (i+1)=l.take i++[x]:=by rw[List.take_add_one,h];rfl
theorem Q3o {n:GNet}{i:Nat}{x:Qaf}(h:n.Elements[i]? = some x):Qkb n (i+1)=Qkb n i++x.From.map pq:=by
 unfold Qkb
 rw[Qmt h,List.flatMap_append]
 simp
theorem Qnq {n:GNet}{i:Nat}{x:Qaf}(h:n.Elements[i]? = some x):wcn n (i+1)=wcn n i+if x.Kind=1 then 1 else 0:=by
 unfold wcn
 rw[Qmt h,List.filter_append,List.length_append]
 by_cases hk:x.Kind=1<;>simp[hk]
theorem Q58 {n:GNet}{i:Nat}:wcn n i≤wcn n n.Elements.length:=by
 unfold wcn
 rw[List.take_length]
 exact((List.take_sublist i n.Elements).filter _).length_le
section
variable {n : GNet} (hv : NetV n) {ws : List Qaa} (hf : FedV n ws) {i : Nat} {o : List (List Qaa)} {ls : List Qa1} (hI : InvT n ws i o ls) {x : Qaf} (hx : n.Elements[i]? = some x)
include hv hI hx in
theorem Qpo {p:Qbn}(hp:p∈x.From):(pq p,Qg6 o p)∈Qig 0 o∧StrV (Qg6 o p)∧(∃r,o[p.Element.toNat]? = some r∧r[p.Outlet.toNat]? = some (Qg6 o p)):=by
 obtain⟨h1,h2,y,h3,h4,h5,_⟩:=hv.port i x p hx hp
 have hlt:p.Element.toNat<o.length:=by rw[hI.lo];omega
 have hr:o[p.Element.toNat]? = some (o[p.Element.toNat]):=List.getElem?_eq_getElem hlt
 have hl:=hI.rows _ y _ h3 hr
 have hlt2:p.Outlet.toNat<(o[p.Element.toNat]).length:=by omega
 have hs:(o[p.Element.toNat])[p.Outlet.toNat]? = some ((o[p.Element.toNat])[p.Outlet.toNat]):=List.getElem?_eq_getElem hlt2
 have e:Qg6 o p=(o[p.Element.toNat])[p.Outlet.toNat]:=by
  unfold Qg6
  rw[List.getD_eq_getElem?_getD,List.getD_eq_getElem?_getD,hr,Option.getD_some,hs,Option.getD_some]
 rw[e]
 refine⟨Qpa.2 ⟨by simpa using h1,h4,_,?_,hs⟩,hI.v _ (List.getElem_mem hlt) _ (List.getElem_mem hlt2),_,hr,hs⟩
 rw[show(p.Element-((0:Nat):Int)).toNat=p.Element.toNat by simp]
 exact hr
include hv hx in
theorem Q8y:(x.From.map pq).Nodup∧∀p∈x.From.map pq,p∉Qkb n i:=by
 have hd:=hv.dist
 have hi:=(List.getElem?_eq_some_iff.1 hx).1
 have e:n.Elements=n.Elements.take i++x::n.Elements.drop (i+1):=by
  rw[←List.take_append_drop i n.Elements]
  congr 1
  ·simp
  ·rw[List.take_append_drop,List.drop_eq_getElem_cons hi]
   rw[List.getElem?_eq_getElem hi] at hx
   cases hx
   rfl
 rw[e,List.flatMap_append,List.flatMap_cons,List.nodup_append,List.nodup_append] at hd
 obtain⟨_,⟨h2,_,_⟩,h3⟩:=hd
 exact⟨h2,fun p hp hu=>h3 p hu p (List.mem_append_left _ hp) rfl⟩
include hv hI hx in
theorem Qve (f:Qaa→Int):Qh6 f (Qkb n (i+1)) (Qig 0 o)=Qh6 f (Qkb n i) (Qig 0 o)-((x.From.map (Qg6 o)).map f).sum:=by
 obtain⟨h1,h2⟩:=Q8y hv hx
 rw[Q3o hx,Qv1 (V:=x.From.map pq++Qkb n i) (fun y _=>by simp[or_comm])]
 refine Qv0 f (Qwj o 0) _ _ _ (by simp) (fun j p s hp hs=>?_) h1 h2
 rw[List.getElem?_map,Option.map_eq_some_iff] at hp hs
 obtain⟨a,ha,rfl⟩:=hp
 obtain⟨b,hb,rfl⟩:=hs
 rw[ha] at hb
 cases hb
 exact(Qpo hv hI hx (List.mem_of_getElem? ha)).1
include hv in
theorem Zg9 (f:Qaa→Int) (r:List Qaa) (hlo:o.length=i):Qh6 f (Qkb n (i+1)) (Qig 0 (o++[r]))=Qh6 f (Qkb n (i+1)) (Qig 0 o)+(r.map f).sum:=by
 rw[Qty,Q1w,Nat.zero_add,hlo,Q2d]
 congr 1
 refine Q1v f (fun p hp=>?_) r 0
 unfold Qkb at hp
 obtain⟨y,hy,hp⟩:=List.mem_flatMap.1 hp
 obtain⟨q,hq,rfl⟩:=List.mem_map.1 hp
 obtain⟨k,hk,e⟩:=List.mem_take_iff_getElem.1 hy
 have:=(hv.port k y q (by rw[←e];exact List.getElem?_eq_getElem (by omega)) hq).2.1
 intro he
 have:(pq q).1=q.Element:=rfl
 omega
include hI in
theorem Zc3 (f:Qaa→Int) (hf0:∀s,StrV s→0≤f s) (U:List (Int×Int)):0≤Qh6 f U (Qig 0 o):=by
 refine Qts fun y hy=>?_
 obtain⟨⟨a,b⟩,s⟩:=y
 obtain⟨_,_,r,h1,h2⟩:=Qpa.1 hy
 exact hf0 _ (hI.v r (List.mem_of_getElem? h1) s (List.mem_of_getElem? h2))
include hf in
theorem Q59 (k:Nat):(totS (ws.take k)).Mass≤1000000∧(totS (ws.take k)).Gas≤1000000000:=by
 have h:=Q3q (ws.take k) (ws.drop k)
 rw[List.take_append_drop] at h
 have hm:=hf.m
 have hg:=hf.g
 rw[h] at hm hg
 have hd:=Qov fun s hs=>hf.v s (List.mem_of_mem_drop (i:=k) hs)
 have:=hd.m0
 have:=hd.g0
 dsimp only at hm hg
 omega
theorem Qp8 {α:Type}(f:α→Int):∀(l:List α),(∀x∈l,0≤f x)→0≤(l.map f).sum
 |[],_=>by simp
 |x::l,h=>by
  have h1:=Qp8 f l fun y hy=>h y (List.mem_cons_of_mem x hy)
  have h2:=h x List.mem_cons_self
  simp only[List.map_cons,List.sum_cons]
  omega
include hv hf hI hx in
theorem Zdw:(∀s∈insE o (ws.drop (wcn n i)) x,StrV s)∧StrV (totS (insE o (ws.drop (wcn n i)) x)):=by
 have hxm:=List.mem_of_getElem? hx
 by_cases h1:x.Kind=1
 ·have e:insE o (ws.drop (wcn n i)) x=(ws.drop (wcn n i)).take 1:=by unfold insE;rw[if_pos h1]
  rw[e]
  have hw:=Qnq hx
  rw[if_pos h1] at hw
  have hle:=Q58 (n:=n) (i:=i+1)
  have hlt:wcn n i<ws.length:=by rw[hf.len];omega
  rw[List.drop_eq_getElem_cons hlt]
  have hs:=hf.v _ (List.getElem_mem hlt)
  rw[List.take_succ_cons,List.take_zero,Qnr]
  exact⟨fun s h=>by rw[List.mem_singleton] at h;rw[h];exact hs,hs⟩
 ·have e:insE o (ws.drop (wcn n i)) x=x.From.map (Qg6 o):=by unfold insE;rw[if_neg h1]
  rw[e]
  have hall:∀s∈x.From.map (Qg6 o),StrV s:=fun s hs=>by
   obtain⟨p,hp,rfl⟩:=List.mem_map.1 hs
   exact(Qpo hv hI hx hp).2.1
  refine⟨hall,Zgl hall ?_ ?_⟩
  ·have h2:=Qve hv hI hx (fun s=>s.Mass)
   have h3:=Zc3 hI (fun s=>s.Mass) (fun s hs=>hs.m0) (Qkb n (i+1))
   have h4:=(Q59 hf (wcn n i)).1
   rw[←hI.m] at h4
   show((x.From.map (Qg6 o)).map fun s=>s.Mass).sum≤_
   omega
  ·have h2:=Qve hv hI hx (fun s=>s.Gas)
   have h3:=Zc3 hI (fun s=>s.Gas) (fun s hs=>hs.g0) (Qkb n (i+1))
   have h4:=(Q59 hf (wcn n i)).2
   have h5:=Qp8 (fun l:Qa1=>l.Gas) ls fun l hl=>(hI.l0 l hl).2.2.1
   rw[←hI.g] at h4
   show((x.From.map (Qg6 o)).map fun s=>s.Gas).sum≤_
   omega
include hv hf hI hx in
theorem Qun (f:Qaa→Int) (hf1:∀l m:List Qaa,((l++m).map f).sum=(l.map f).sum+(m.map f).sum) (r:List Qaa) :
  Qh6 f (Qkb n (i+1)) (Qig 0 (o++[r]))=Qh6 f (Qkb n i) (Qig 0 o)+((ws.take (wcn n (i+1))).map f).sum-((ws.take (wcn n i)).map f).sum-((insE o (ws.drop (wcn n i)) x).map f).sum+(r.map f).sum:=by
 rw[Zg9 hv f r hI.lo,Qve hv hI hx f]
 by_cases h1:x.Kind=1
 ·have e:insE o (ws.drop (wcn n i)) x=(ws.drop (wcn n i)).take 1:=by unfold insE;rw[if_pos h1]
  have hw:=Qnq hx
  rw[if_pos h1] at hw
  have hle:=Q58 (n:=n) (i:=i+1)
  have hlt:wcn n i<ws.length:=by rw[hf.len];omega
  have hfr:=(Qpg (hv.alone x (List.mem_of_getElem? hx))).well h1
  rw[e,hfr,hw,Qmt (List.getElem?_eq_getElem hlt),hf1,List.drop_eq_getElem_cons hlt]
  simp only[List.map_nil,List.sum_nil,List.take_succ_cons,List.take_zero,List.map_cons,List.sum_cons]
  omega
 ·have e:insE o (ws.drop (wcn n i)) x=x.From.map (Qg6 o):=by unfold insE;rw[if_neg h1]
  have hw:=Qnq hx
  rw[if_neg h1] at hw
  rw[e,hw,Nat.add_zero]
  omega
include hv hf hI hx in
theorem Qzz {a:List Qaa×Qa1×Int}(ha:Zo7 x (totS (insE o (ws.drop (wcn n i)) x)) a):InvT n ws (i+1) (o++[a.1]) (ls++[a.2.1]):=by
 obtain⟨k1,k2,k3,k4,k5,k6,k7,k8,k9,k10,_,_⟩:=ha
 have sa:∀f:Qaa→Int,∀l m:List Qaa,((l++m).map f).sum=(l.map f).sum+(m.map f).sum:=fun f l m=>by simp
 refine⟨by simp[hI.lo],by simp[hI.ll],fun k y r hy hr=>?_,fun r hr s hs=>?_,?_,?_,?_,?_,fun l hl=>?_⟩
 ·by_cases hk:k<i
  ·rw[List.getElem?_append_left (by rw[hI.lo];exact hk)] at hr
   exact hI.rows k y r hy hr
  ·rw[List.getElem?_append_right (by rw[hI.lo];omega),hI.lo] at hr
   have:k=i:=by
    have:=(List.getElem?_eq_some_iff.1 hr).1
    simp at this
    omega
   subst this
   rw[hx] at hy
   cases hy
   simp at hr
   subst hr
   exact k2
 ·rcases List.mem_append.1 hr with hr |hr
  ·exact hI.v r hr s hs
  ·simp at hr;subst hr;exact k1 s hs
 ·rw[Qun hv hf hI hx _ (sa _),hI.m]
  have e1:(a.1.map fun s=>s.Mass).sum=(totS a.1).Mass:=rfl
  have e2:((insE o (ws.drop (wcn n i)) x).map fun s=>s.Mass).sum=(totS (insE o (ws.drop (wcn n i)) x)).Mass:=rfl
  have e3:∀k,((ws.take k).map fun s=>s.Mass).sum=(totS (ws.take k)).Mass:=fun _=>rfl
  rw[e1,e2,e3,e3]
  omega
 ·rw[Qun hv hf hI hx _ (sa _)]
  have e1:(a.1.map fun s=>s.Heat).sum=(totS a.1).Heat:=rfl
  have e2:((insE o (ws.drop (wcn n i)) x).map fun s=>s.Heat).sum=(totS (insE o (ws.drop (wcn n i)) x)).Heat:=rfl
  have e3:∀k,((ws.take k).map fun s=>s.Heat).sum=(totS (ws.take k)).Heat:=fun _=>rfl
  have h:=hI.h
  rw[e1,e2,e3,e3,List.map_append,List.sum_append]
  simp only[List.map_cons,List.map_nil,List.sum_cons,List.sum_nil]
  omega
 ·rw[Qun hv hf hI hx _ (sa _)]
  have e1:(a.1.map fun s=>s.Silica).sum=(totS a.1).Silica:=rfl
  have e2:((insE o (ws.drop (wcn n i)) x).map fun s=>s.Silica).sum=(totS (insE o (ws.drop (wcn n i)) x)).Silica:=rfl
  have e3:∀k,((ws.take k).map fun s=>s.Silica).sum=(totS (ws.take k)).Silica:=fun _=>rfl
  have h:=hI.q
  rw[e1,e2,e3,e3,List.map_append,List.sum_append,List.map_append,List.sum_append]
  simp only[List.map_cons,List.map_nil,List.sum_cons,List.sum_nil]
  omega
 ·rw[Qun hv hf hI hx _ (sa _)]
  have e1:(a.1.map fun s=>s.Gas).sum=(totS a.1).Gas:=rfl
  have e2:((insE o (ws.drop (wcn n i)) x).map fun s=>s.Gas).sum=(totS (insE o (ws.drop (wcn n i)) x)).Gas:=rfl
  have e3:∀k,((ws.take k).map fun s=>s.Gas).sum=(totS (ws.take k)).Gas:=fun _=>rfl
  have h:=hI.g
  rw[e1,e2,e3,e3,List.map_append,List.sum_append]
  simp only[List.map_cons,List.map_nil,List.sum_cons,List.sum_nil]
  omega
 ·rcases List.mem_append.1 hl with hl |hl
  ·exact hI.l0 l hl
  ·simp at hl;subst hl;exact⟨k7,k8,k9,k10⟩
include hv hf hI hx in
theorem Qz0:Zo7 x (totS (insE o (ws.drop (wcn n i)) x)) (actE n.Table x (totS (insE o (ws.drop (wcn n i)) x))):=
 Q7p hv.tab (Qpg (hv.alone x (List.mem_of_getElem? hx))) (hv.level x (List.mem_of_getElem? hx)) (Zdw hv hf hI hx).2
end
end
section
open Go.RowKit
def ofL (k:Int):Nat→List Qaf→List Int
 |_,[]=>[]
 |i,x::l=>if x.Kind=k then(i:Int)::ofL k (i+1) l else ofL k (i+1) l
theorem Qi9 (k:Int):∀(l:List Qaf) (i:Nat),(ofL k i l).length=(l.filter fun x=>decide (x.Kind=k)).length
 |[],_=>rfl
 |x::l,i=>by
  rw[ofL,List.filter_cons]
  by_cases h:x.Kind=k
  ·rw[if_pos h,if_pos (by simpa using h),List.length_cons,List.length_cons,Qi9 k l]
  ·rw[if_neg h,if_neg (by simpa using h),Qi9 k l]
theorem Qzn (k:Int):∀(l:List Qaf) (i:Nat),∀z∈ofL k i l,(i:Int)≤z∧z<(i:Int)+l.length
 |[],_,z,h=>by simp[ofL] at h
 |x::l,i,z,h=>by
  rw[ofL] at h
  simp only[List.length_cons]
  by_cases hk:x.Kind=k
  ·rw[if_pos hk] at h
   rcases List.mem_cons.1 h with rfl |h
   ·omega
   ·have:=Qzn k l (i+1) z h;omega
  ·rw[if_neg hk] at h
   have:=Qzn k l (i+1) z h;omega
theorem Qxw (k:Int):∀(l m:List Qaf) (i:Nat),ofL k i (l++m)=ofL k i l++ofL k (i+l.length) m
 |[],m,i=>by simp[ofL]
 |x::l,m,i=>by
  rw[List.cons_append,ofL,ofL,Qxw k l m (i+1),List.length_cons,show i+1+l.length=i+(l.length+1) by omega]
  by_cases h:x.Kind=k
  ·rw[if_pos h,if_pos h,List.cons_append]
  ·rw[if_neg h,if_neg h]
section
variable {N : Nat} {n : GNet} (hs : Qik n) (hN : 1001 ≤ N)
include hs in
theorem Zm9 (k:Int) (c:List Int→Option (List Int)):∀(m i:Nat) (acc:List Int),(n.Elements.drop i).length<m→acc.length≤i→Qdz N n k c m acc i=c (acc++ofL k i (n.Elements.drop i)):=by
 intro m
 induction m with
 |zero=>intro i _ h;cases h
 |succ m ih=>
  intro i acc h ha
  rw[Qdz]
  cases hd:n.Elements.drop i with
  |nil=>
   have:=Qbs hd
   simp[show ¬((i:Int)<n.Elements.length) from by omega,ofL]
  |cons x l=>
   obtain⟨hg,hd',hlt⟩:=Qbf hd
   have e0:=hs.e
   simp only[dlI hlt,cond_true,Qbu hg,Option.bind_some]
   rw[w64S (i:=i) (by omega),ofL]
   by_cases hk:x.Kind=k
   ·rw[show(x.Kind==k)=true by simpa using hk,cond_true,if_pos hk]
    simp only[chk]
    rw[show decide ((acc.length+[(i:Int)].length)*8≤140737488355328)=true by simp;omega,cond_true,ih (i+1) _ (dlt hd hd' h) (by simp;omega),hd',List.append_assoc]
    rfl
   ·rw[show(x.Kind==k)=false by simpa using hk,cond_false,if_neg hk,ih (i+1) _ (dlt hd hd' h) (by omega),hd']
include hs hN in
theorem Q6p (k:Int):Qg7 N n k=some (ofL k 0 n.Elements):=by
 have e0:=hs.e
 unfold Qg7
 simp only[Qbc]
 refine(Zm9 hs k _ N 0 [] (by simp;omega) (by simp)).trans ?_
 rw[List.drop_zero,List.nil_append]
theorem Q8x (P S:List Int) (p:Int) (hp:p∉P) (hl:P.length≤1000) (k:Unit→Option Int):∀(m i:Nat),P.length-i<m→i≤P.length→Qcg N (P++p::S) k p m i=some (P.length:Int):=by
 intro m
 induction m with
 |zero=>intro i h;cases h
 |succ m ih=>
  intro i h hi
  rw[Qcg]
  rw[show decide ((i:Int)<((P++p::S).length:Int))=true by simp;omega,cond_true]
  by_cases hlt:i<P.length
  ·have hg:(P++p::S)[i]? = some P[i]:=by rw[List.getElem?_append_left hlt,List.getElem?_eq_getElem hlt]
   rw[Qbu hg,Option.bind_some,show(p==P[i])=false by rw[beq_eq_false_iff_ne];intro e;exact hp (e▸List.getElem_mem hlt),cond_false,w64S (i:=i) (by omega)]
   exact ih (i+1) (by omega) (by omega)
  ·have e:i=P.length:=by omega
   subst e
   have hg:(P++p::S)[P.length]? = some p:=by rw[List.getElem?_append_right (Nat.le_refl _)];simp
   rw[Qbu hg,Option.bind_some,beq_self_eq_true,cond_true]
include hs hN in
theorem Zmd {i:Nat}{x:Qaf}(hx:n.Elements[i]? = some x) (h1:x.Kind=1):Qfn N (ofL 1 0 n.Elements) i=some (wcn n i:Int):=by
 have hi:=(List.getElem?_eq_some_iff.1 hx).1
 have e0:=hs.e
 have e:n.Elements=n.Elements.take i++x::n.Elements.drop (i+1):=by
  have:n.Elements.drop i=x::n.Elements.drop (i+1):=by
   rw[List.drop_eq_getElem_cons hi]
   rw[List.getElem?_eq_getElem hi] at hx
   cases hx
   rfl
  rw[←this,List.take_append_drop]
 have hlt:(n.Elements.take i).length=i:=by rw[List.length_take];omega
 have e2:ofL 1 0 n.Elements=ofL 1 0 (n.Elements.take i)++(i:Int)::ofL 1 (i+1) (n.Elements.drop (i+1)):=by
  have e3:ofL 1 0 n.Elements=ofL 1 0 (n.Elements.take i++x::n.Elements.drop (i+1)):=congrArg (ofL 1 0) e
  rw[e3,Qxw,hlt,ofL,if_pos h1,Nat.zero_add]
 have hlen:(ofL 1 0 (n.Elements.take i)).length=wcn n i:=Qi9 1 _ 0
 have hb:wcn n i≤18:=by
  rw[←hlen,Qi9]
  have:=List.length_filter_le (fun x:Qaf=>decide (x.Kind=1)) (n.Elements.take i)
  omega
 unfold Qfn
 simp only[Qbc]
 rw[e2]
 have:=Q8x (N:=N) (ofL 1 0 (n.Elements.take i)) (ofL 1 (i+1) (n.Elements.drop (i+1))) (i:Int) (fun hm=>by
  have:=Qzn 1 _ 0 _ hm
  omega) (by omega) (fun _=>some (-1)) N 0 (by omega) (Nat.zero_le _)
 rw[hlen] at this
 exact this
theorem Qp9 (k:List Qaa→Option (List Qaa)):∀(q y:List Qaa),y.length+q.length≤1000→Qax N k q y=k (y++q)
 |[],y,_=>by simp[Qax]
 |x::q,y,h=>by
  have hc:decide ((y.length+[x].length)*32≤140737488355328)=true:=by simp at h ⊢;omega
  rw[Qax]
  simp only[chk]
  rw[hc,cond_true,Qp9 k q _ (by simp at h ⊢;omega)]
  simp
end
section
variable {N : Nat} {n : GNet} (hs : Qik n) (hN : 1001 ≤ N) (hv : NetV n) {ws : List Qaa} (hf : FedV n ws) {i : Nat} {o : List (List Qaa)} {ls : List Qa1} (hI : InvT n ws i o ls) {x : Qaf} (hx : n.Elements[i]? = some x)
include hv hI hx in
theorem Zdv (hfr:x.From.length≤1000) (R:List (List Qaa)):∀(m j:Nat),(x.From.drop j).length<m→Qdb N x (o++R) m j=some ((x.From.drop j).map (Qg6 o)):=by
 intro m
 induction m with
 |zero=>intro j h;cases h
 |succ m ih=>
  intro j h
  rw[Qdb]
  cases hd:x.From.drop j with
  |nil=>
   have:=Qbs hd
   simp[show ¬((j:Int)<x.From.length) from by omega]
  |cons p l=>
   obtain⟨hg,hd',hlt⟩:=Qbf hd
   have hpm:=List.mem_of_getElem? hg
   obtain⟨p1,_,_,_,p4,_,_⟩:=hv.port i x p hx hpm
   obtain⟨_,_,r,hr,hr2⟩:=Qpo hv hI hx hpm
   have g1:getI (o++R) p.Element=some r:=by
    unfold getI
    rw[if_pos p1,List.getElem?_append_left (List.getElem?_eq_some_iff.1 hr).1,hr]
   have g2:getI r p.Outlet=some (Qg6 o p):=by
    unfold getI
    rw[if_pos p4,hr2]
   simp only[dlI hlt,cond_true,Qbu hg,Option.bind_some,g1,g2]
   rw[w64S (i:=j) (by omega),ih (j+1) (dlt hd hd' h),hd']
   rfl
include hs hN hv hf hI hx in
theorem Znf (R:List (List Qaa)) (L:List Qa1) (S:List Int) (y:Int):Qb0 N n.Table n.Elements (o++R) L S ws y i=some (insE o (ws.drop (wcn n i)) x):=by
 have hxs:=hs.x x (List.mem_of_getElem? hx)
 have hS:Qhm N n.Table n.Elements (o++R) L S ws y i=some (insE o (ws.drop (wcn n i)) x):=by
  unfold Qhm insE
  rw[Qbu hx,Option.bind_some]
  by_cases h1:x.Kind=1
  ·rw[show(x.Kind==1)=true by simpa using h1,cond_true,if_pos h1]
   have hw:=Qnq hx
   rw[if_pos h1] at hw
   have hle:=Q58 (n:=n) (i:=i+1)
   have hlt:wcn n i<ws.length:=by rw[hf.len];omega
   rw[Q6p hs hN 1,Option.bind_some,Zmd hs hN hx h1,Option.bind_some,Qbu (List.getElem?_eq_getElem hlt),Option.bind_some,List.drop_eq_getElem_cons hlt]
   rfl
  ·rw[show(x.Kind==1)=false by simpa using h1,cond_false,if_neg h1]
   have:=Zdv (N:=N) hv hI hx (by omega) R N 0 (by simp;omega)
   rw[List.drop_zero] at this
   exact this
 unfold Qb0 Qb9
 simp only[Qbc,hS,Option.bind_some]
 have hlen:(insE o (ws.drop (wcn n i)) x).length≤100:=by
  unfold insE
  split
  ·rw[List.length_take];omega
  ·rw[List.length_map];omega
 rw[Qp9 _ _ _ (by simp;omega)]
 rfl
end
theorem Qrq {α:Type}{l:List α}{i:Nat}{x:α}(h:l[i]? = some x):l.set i x=l:=by
 obtain⟨h1,h2⟩:=List.getElem?_eq_some_iff.1 h
 subst h2
 exact List.set_getElem_self h1
section
variable {N : Nat} {n : GNet} (hN : 1001 ≤ N) (hv : NetV n) (ht : n.Table.length ≤ 1000) {i : Nat} {x : Qaf} (hx : n.Elements[i]? = some x) {s : Qaa} (hst : StrV s) {D nW : Nat} {ws : List Qaa} {y : Int} {O : List (List Qaa)} {Ls : List Qa1} {Ss : List Int} {d : Int}
 (hlo:i<D) (hLs:Ls[i]? = some ⟨0,0,0,0⟩) (hSs:Ss[i]? = some d) (hd0:0≤d) (hd1:d≤1000000000000000) (hO:∃r,O[i]? = some r) (hy0:0≤y) (hy1:y≤1000000000)
include hN hst hlo in
theorem Q1f {wts:List Int}(hw:WtsV wts) {l0:Qa1}(hL:Ls[i]? = some l0) (hl:i<Ls.length):Qfs N i s wts n.Table n.Elements D D nW ws y O Ls Ss=some (Qhg s wts,Ls.set i ⟨(Qj2 s wts).Heat,(Qj2 s wts).Silica,(Qj2 s wts).Gas,l0.Scale⟩):=by
 have c1:(decide ((0:Int)≤(i:Int))&&decide (i<D))=true:=by simp;omega
 have e:∀q:Qa1,(Ls.set i q)[i]? = some q:=fun q=>List.getElem?_set_self hl
 unfold Qfs
 rw[Zgw hst hw hN]
 simp only[Option.bind_some,chk,c1,cond_true,Int.toNat_natCast,hL,e,List.set_set]
include hN hv ht hx hst hlo hLs hSs hd0 hd1 hy0 hy1 in
theorem Q3y (hln:i<Ls.length) (h4:x.Kind=4):Qfp N i s n.Table n.Elements D D D ws y O Ls Ss=some ((actE n.Table x s).1,y+(actE n.Table x s).2.2,Ls.set i (actE n.Table x s).2.1,Ss.set i (d+(actE n.Table x s).2.1.Scale)):=by
 have hxm:=List.mem_of_getElem? hx
 have hA:=Qpg (hv.alone x hxm)
 have hlv:=hv.level x hxm
 have hrow:=(Q6d hv.tab (Qf3.2 hlv)).2
 have hk:=Qz2 (r:=Qe3 n.Table x.Level) hrow hst
 have hK:=Q7p hv.tab hA hlv hst
 have c1:(decide ((0:Int)≤(i:Int))&&decide (i<D))=true:=by simp;omega
 have ef:Q60 n.Table x.Level s=(flG (Qe3 n.Table x.Level) s,0):=by
  unfold Q60 Qe3
  rw[hv.tab,Qpj.2 hst,Qf3.2 hlv];rfl
 have hq1:=hst.s1
 have hm1:=hst.m1
 have cv:=Qov hK.v
 have:=cv.s0
 unfold Qfp
 simp only[Qbu hx,Option.bind_some,Zhh hN ht,ef,chk,c1,cond_true,Int.toNat_natCast,hLs,hSs]
 by_cases h0:x.Amount=0
 ·have ha:actE n.Table x s=([(flG (Qe3 n.Table x.Level) s).Steam,(flG (Qe3 n.Table x.Level) s).Water],⟨0,0,0,(flG (Qe3 n.Table x.Level) s).Scale⟩,(flG (Qe3 n.Table x.Level) s).Steam.Mass):=by
   unfold actE
   rw[if_neg (show ¬x.Kind=3 by omega),if_pos h4,if_pos h0]
  rw[ha] at hK
  obtain⟨_,_,_,_,cs,_,_,cq,_,cc,t0,t1⟩:=hK
  dsimp only at t0 t1 cs cc cq
  have:=hk.km
  have:=hk.wa.m0
  have:=hk.ks
  have:=hk.wa.s0
  rw[ha,show(x.Amount==0)=true by simpa using h0,cond_true]
  rw[Qbg (x:=y+_) (by omega) (by omega),Qbg (x:=d+_) (by omega) (by omega)]
 ·have ha:actE n.Table x s=([totS [(flG (Qe3 n.Table x.Level) s).Steam,(Qhg (flG (Qe3 n.Table x.Level) s).Water [1000-x.Amount,x.Amount]).getD 1 zs],(Qhg (flG (Qe3 n.Table x.Level) s).Water [1000-x.Amount,x.Amount]).getD 0 zs],
   ⟨(Qj2 (flG (Qe3 n.Table x.Level) s).Water [1000-x.Amount,x.Amount]).Heat,(Qj2 (flG (Qe3 n.Table x.Level) s).Water [1000-x.Amount,x.Amount]).Silica,(Qj2 (flG (Qe3 n.Table x.Level) s).Water [1000-x.Amount,x.Amount]).Gas,(flG (Qe3 n.Table x.Level) s).Scale⟩,(flG (Qe3 n.Table x.Level) s).Steam.Mass):=by
   unfold actE
   rw[if_neg (show ¬x.Kind=3 by omega),if_pos h4,if_neg h0]
  have hav:=hA.a4 h4
  have hw:=Q3p (a:=x.Amount) (by omega) hav.2
  have:=hk.km
  have:=hk.st.m0
  have:=hk.wa.m0
  have:=hk.ks
  have:=hk.wa.s0
  have:=hk.sc
  rw[ha,show(x.Amount==0)=false by simpa using h0,cond_false,Qbg (x:=y+_) (by omega) (by omega),Qbg (x:=d+_) (by omega) (by omega),Qbg (x:=1000-x.Amount) (by omega) (by omega)]
  have hsh:=Q1f (N:=N) (n:=n) (nW:=D) (ws:=ws) (y:=y+(flG (Qe3 n.Table x.Level) s).Steam.Mass) (O:=O) (Ss:=Ss.set i (d+(flG (Qe3 n.Table x.Level) s).Scale)) (Ls:=Ls.set i ⟨0,0,0,(flG (Qe3 n.Table x.Level) s).Scale⟩) (l0:=⟨0,0,0,(flG (Qe3 n.Table x.Level) s).Scale⟩) hN hk.wa hlo hw (List.getElem?_set_self hln) (by rw[List.length_set];exact hln)
  obtain⟨u,v,hp⟩:=Qvc (s:=(flG (Qe3 n.Table x.Level) s).Water) (a:=1000-x.Amount) (b:=x.Amount)
  have hKp:=Qji hk.wa hw
  rw[hp] at hsh hKp ⊢
  have htot:Qgo N [(flG (Qe3 n.Table x.Level) s).Steam,v]=some (totS [(flG (Qe3 n.Table x.Level) s).Steam,v]):=by
   rw[Q3r (by simp) hN,Qqg (fun z hz=>by
    simp at hz
    rcases hz with rfl |rfl
    ·exact hk.st
    ·exact hKp.v _ (by simp)) (by simp)]
  refine(congrArg (fun z=>Option.bind z _) hsh).trans ?_
  simp only[Option.bind_some,show getI [u,v] 1=some v from rfl,show getI [u,v] 0=some u from rfl,List.set_set]
  exact congrArg (fun z=>Option.bind z _) htot
include hN hv ht hx hst hlo hLs hSs hd0 hd1 hO hy0 hy1 in
theorem Zoq (hln:i<Ls.length) (hD:D=O.length) (hDl:D=Ls.length) (hDs:D=Ss.length) {w:Int}(hw:s.Mass≤w) {ins:List Qaa}(hin:Qb0 N n.Table n.Elements O Ls Ss ws y i=some ins) (htot:Qgo N ins=some s) :
  Qcw N i w n.Table n.Elements D D D ws y O Ls Ss=some (.inl (y+(actE n.Table x s).2.2,O.set i (actE n.Table x s).1,Ls.set i (actE n.Table x s).2.1,Ss.set i (d+(actE n.Table x s).2.1.Scale))):=by
 have hxm:=List.mem_of_getElem? hx
 have hA:=Qpg (hv.alone x hxm)
 obtain⟨r,hr⟩:=hO
 have c1:(decide ((0:Int)≤(i:Int))&&decide (i<D))=true:=by simp;omega
 unfold Qcw
 simp only[Qhn,Option.bind_some,chk,Qbc,show decide (D≤O.length)=true by simp;omega,show decide (D≤Ls.length)=true by simp;omega,show decide (D≤Ss.length)=true by simp;omega,cond_true]
 rw[show O.take D=O from by rw[hD,List.take_length],show Ls.take D=Ls from by rw[hDl,List.take_length],show Ss.take D=Ss from by rw[hDs,List.take_length],hin,Option.bind_some,htot,Option.bind_some,decide_eq_false (show ¬s.Mass>w by omega),cond_false,Qbu hx,Option.bind_some]
 simp only[c1,cond_true,Int.toNat_natCast,hr,Option.bind_some,Qgf]
 have hpass:(actE n.Table x s)=([s],⟨0,0,0,0⟩,0)→(y,O.set i [s],Ls,Ss)=(y+(actE n.Table x s).2.2,O.set i (actE n.Table x s).1,Ls.set i (actE n.Table x s).2.1,Ss.set i (d+(actE n.Table x s).2.1.Scale)):=fun e=>by
  rw[e]
  simp only[Int.add_zero]
  rw[Qrq hLs,Qrq hSs]
 by_cases h1:x.Kind=1
 ·rw[h1]
  simp only[show((1:Int)==0)=false from rfl,show((1:Int)==1)=true from rfl,cond_true,cond_false]
  rw[hpass (by unfold actE;rw[if_neg (by omega),if_neg (by omega),if_neg (by omega)])]
 by_cases h2:x.Kind=2
 ·rw[h2]
  simp only[show((2:Int)==0)=false from rfl,show((2:Int)==1)=false from rfl,show((2:Int)==2)=true from rfl,cond_true,cond_false]
  rw[hpass (by unfold actE;rw[if_neg (by omega),if_neg (by omega),if_neg (by omega)])]
 by_cases h3:x.Kind=3
 ·rw[h3]
  simp only[show((3:Int)==0)=false from rfl,show((3:Int)==1)=false from rfl,show((3:Int)==2)=false from rfl,show((3:Int)==3)=true from rfl,cond_true,cond_false]
  have e:actE n.Table x s=([⟨s.Mass,s.Heat-Qn4 x s,s.Silica,s.Gas⟩],⟨Qn4 x s,0,0,0⟩,0):=by unfold actE;rw[if_pos h3]
  have hc:0≤Qn4 x s∧Qn4 x s≤s.Heat:=by
   have:=hA.a3 h3
   have:=hst.h0
   unfold Qn4;split<;>omega
  have:=hst.h1
  have:=hst.m1
  unfold Qip
  simp only[Qbu hx,Option.bind_some,chk,c1,cond_true,Int.toNat_natCast,hLs]
  rw[show(if s.Heat<x.Amount then s.Heat else x.Amount)=Qn4 x s from rfl,Qbg (x:=s.Heat-Qn4 x s) (by omega) (by omega),e]
  simp only[Int.add_zero]
  rw[Qrq hSs]
 by_cases h4:x.Kind=4
 ·have hsep:=Q3y (N:=N) hN hv ht hx hst (ws:=ws) (O:=O) hlo hLs hSs hd0 hd1 hy0 hy1 hln h4
  rw[h4]
  simp only[show((4:Int)==0)=false from rfl,show((4:Int)==1)=false from rfl,show((4:Int)==2)=false from rfl,show((4:Int)==3)=false from rfl,show((4:Int)==4)=true from rfl,cond_true,cond_false,hsep,Option.bind_some]
 by_cases h5:x.Kind=5
 ·have hsh:=Q1f (N:=N) (n:=n) (nW:=D) (ws:=ws) (y:=y) (O:=O) (Ss:=Ss) (Ls:=Ls) hN hst hlo (hA.w5 h5) hLs hln
  have e:actE n.Table x s=(Qhg s x.Weights,⟨(Qj2 s x.Weights).Heat,(Qj2 s x.Weights).Silica,(Qj2 s x.Weights).Gas,0⟩,0):=by unfold actE;rw[if_neg h3,if_neg h4,if_pos h5]
  rw[h5]
  unfold Qia
  simp only[show((5:Int)==0)=false from rfl,show((5:Int)==1)=false from rfl,show((5:Int)==2)=false from rfl,show((5:Int)==3)=false from rfl,show((5:Int)==4)=false from rfl,show((5:Int)==5)=true from rfl,cond_true,cond_false,Qbu hx,Option.bind_some,hsh,e,Int.add_zero]
  rw[Qrq hSs]
 have h6:x.Kind=6:=by have:=hA.k;omega
 rw[h6]
 simp only[show((6:Int)==0)=false from rfl,show((6:Int)==1)=false from rfl,show((6:Int)==2)=false from rfl,show((6:Int)==3)=false from rfl,show((6:Int)==4)=false from rfl,show((6:Int)==5)=false from rfl,show((6:Int)==6)=true from rfl,cond_true,cond_false]
 rw[hpass (by unfold actE;rw[if_neg h3,if_neg h4,if_neg h5])]
end
end
section
open Go.RowKit
theorem Zek {N:Nat}{n:GNet}{i:Nat}{w:Int}{D:Nat}{ws:List Qaa}{y:Int}{O:List (List Qaa)}{Ls:List Qa1}{Ss:List Int}{s:Qaa}(hD:D=O.length) (hDl:D=Ls.length) (hDs:D=Ss.length) (hw:¬s.Mass≤w) {ins:List Qaa}(hin:Qb0 N n.Table n.Elements O Ls Ss ws y i=some ins) (htot:Qgo N ins=some s) :
  Qcw N i w n.Table n.Elements D D D ws y O Ls Ss=some (.inr i):=by
 unfold Qcw
 simp only[Qhn,Option.bind_some,chk,Qbc,show decide (D≤O.length)=true by simp;omega,show decide (D≤Ls.length)=true by simp;omega,show decide (D≤Ss.length)=true by simp;omega,cond_true]
 rw[show O.take D=O from by rw[hD,List.take_length],show Ls.take D=Ls from by rw[hDl,List.take_length],show Ss.take D=Ss from by rw[hDs,List.take_length],hin,Option.bind_some,htot,Option.bind_some,decide_eq_true (show s.Mass>w by omega),cond_true]
abbrev Q25:=List (List Qaa)×List Qa1×List Int×Int
def Qug {β:Type}(r:Nat⊕Q25) (f:Nat→β) (g:Q25→β):β:=match r with |.inl a=>f a |.inr b=>g b
theorem Zci {α:Type}{o:List α}{i k:Nat}(h:o.length=i) (x y:α):(o++List.replicate (k+1) x).set i y=(o++[y])++List.replicate k x:=by
 rw[List.set_append_right _ _ (by omega),h,Nat.sub_self,List.replicate_succ,List.set_cons_zero,List.append_assoc]
 rfl
structure StV (n:GNet) (st:List Int):Prop where
 len:st.length=n.Elements.length
 bd:∀d∈st,0≤d∧d≤1000000000000000
theorem Zrb {n:GNet}{st:List Int}(hst:stB n st=true):StV n st:=by
 unfold stB at hst
 simp only[Bool.and_eq_true,decide_eq_true_eq] at hst
 refine⟨hst.1,fun d hd=>?_⟩
 have:=Qf3.1 (List.all_eq_true.1 hst.2 d hd)
 omega
theorem Qxq {n:GNet}{st:List Int}(hst:StV n st):st.length=n.Elements.length:=hst.len
theorem Zky {n:GNet}{st:List Int}(hst:StV n st) {i:Nat}(hi:i<n.Elements.length):∃d,st[i]? = some d∧0≤d∧d≤1000000000000000:=by
 have hl:=hst.len
 obtain⟨a,b⟩:=hst.bd (st[i]'(by omega)) (List.getElem_mem _)
 exact⟨st[i]'(by omega),List.getElem?_eq_getElem _,a,b⟩
section
variable {N : Nat} {n : GNet} (hs : Qik n) (hN : 1001 ≤ N) (hv : NetV n) {ws : List Qaa} (hf : FedV n ws) {st : List Int} (hst : StV n st)
include hs hN hv hf hst in
theorem Zot (k:List (List Qaa)×List Qa1×List Int×Int→Option (Int⊕(Int×Int×List (List Qaa)×List Qa1×List Int))):∀(m i:Nat) (o:List (List Qaa)) (ls:List Qa1) (ss:List Int) (y:Int),(n.Elements.drop i).length<m→i≤n.Elements.length→InvT n ws i o ls→ss.length=i→0≤y→y≤1000000*i →
  Qdu N n st ws k m i (o++List.replicate (n.Elements.length-i) []) (ls++List.replicate (n.Elements.length-i) ⟨0,0,0,0⟩) (ss++st.drop i) y =
  Qug (Qsp n.Table ((n.Elements.drop i).zip (st.drop i)) (ws.drop (wcn n i)) o ls ss y) (fun a=>some (.inl (a:Int))) k:=by
 intro m
 induction m with
 |zero=>intro i _ _ _ _ h;cases h
 |succ m ih=>
  intro i o ls ss y h hi hI hss hy0 hy1
  have hsl:=Qxq hst
  have e0:=hs.e
  rw[Qdu]
  cases hd:n.Elements.drop i with
  |nil=>
   have:=Qbs hd
   have hi2:i=n.Elements.length:=by omega
   subst hi2
   rw[show decide ((n.Elements.length:Int)<(n.Elements.length:Int))=false by simp,cond_false,Nat.sub_self,show st.drop n.Elements.length=[] from List.drop_of_length_le (by omega)]
   simp[Qsp,Qug]
  |cons x l=>
   obtain⟨hg,hd',hlt⟩:=Qbf hd
   obtain⟨d,hgd,d0,d1⟩:=Zky hst hlt
   have hds:st.drop i=d::st.drop (i+1):=by
    have hi:=(List.getElem?_eq_some_iff.1 hgd).1
    rw[List.drop_eq_getElem_cons hi]
    rw[List.getElem?_eq_getElem hi] at hgd
    cases hgd;rfl
   obtain⟨iv,it⟩:=Zdw hv hf hI hg
   have hx:=hs.x x (List.mem_of_getElem? hg)
   have hinl:(insE o (ws.drop (wcn n i)) x).length≤100:=by
    unfold insE
    split
    ·rw[List.length_take];omega
    ·rw[List.length_map];omega
   have hk:n.Elements.length-i=(n.Elements.length-(i+1))+1:=by omega
   have hwid:=Zbz N (hv.alone x (List.mem_of_getElem? hg)) d0 (show d≤9000000000000000000 by omega)
   simp only[dlI hlt,cond_true,Qbu hg,Qbu hgd,Option.bind_some,hwid,Int.toNat_natCast,hsl]
   have htot:Qgo N (insE o (ws.drop (wcn n i)) x)=some (totS (insE o (ws.drop (wcn n i)) x)):=by rw[Q3r (by omega) hN,Qqg iv (by omega)]
   have hin:=Znf hs hN hv hf hI hg (List.replicate (n.Elements.length-i) []) (ls++List.replicate (n.Elements.length-i) ⟨0,0,0,0⟩) (ss++st.drop i) y
   have lO:n.Elements.length=(o++List.replicate (n.Elements.length-i) []).length:=by simp[hI.lo];omega
   have lL:n.Elements.length=(ls++List.replicate (n.Elements.length-i) (⟨0,0,0,0⟩:Qa1)).length:=by simp[hI.ll];omega
   have lS:n.Elements.length=(ss++st.drop i).length:=by simp[hss,hsl];omega
   rw[hds,List.zip_cons_cons,Qsp]
   by_cases hm:(totS (insE o (ws.drop (wcn n i)) x)).Mass>widI x d
   ·rw[if_pos hm,←hds,Zek lO lL lS (by omega) hin htot,hI.lo]
    rfl
   ·rw[if_neg hm]
    have hLs:(ls++List.replicate (n.Elements.length-i) (⟨0,0,0,0⟩:Qa1))[i]? = some ⟨0,0,0,0⟩:=by
     rw[List.getElem?_append_right (by rw[hI.ll];exact Nat.le_refl _),hI.ll,Nat.sub_self,hk,List.replicate_succ];rfl
    have hSs:(ss++st.drop i)[i]? = some d:=by
     rw[List.getElem?_append_right (by omega),hss,Nat.sub_self,hds];rfl
    have hO:∃r,(o++List.replicate (n.Elements.length-i) ([]:List Qaa))[i]? = some r:=⟨[],by
     rw[List.getElem?_append_right (by rw[hI.lo];exact Nat.le_refl _),hI.lo,Nat.sub_self,hk,List.replicate_succ];rfl⟩
    have hel:=Zoq (N:=N) hN hv (by have:=hs.t;omega) hg it (D:=n.Elements.length) hlt hLs hSs d0 (by omega) hO hy0 (by omega) (by rw[←lL];exact hlt) lO lL lS (w:=widI x d) (by omega) hin htot
    have hK:=Qz0 hv hf hI hg
    have hI2:=Qzz hv hf hI hg hK
    rw[←hds,hel,Option.bind_some,Sum.elim_inl]
    dsimp only
    have hSet:(ss++st.drop i).set i (d+(actE n.Table x (totS (insE o (ws.drop (wcn n i)) x))).2.1.Scale)=(ss++[d+(actE n.Table x (totS (insE o (ws.drop (wcn n i)) x))).2.1.Scale])++st.drop (i+1):=by
     rw[hds,List.set_append_right _ _ (by omega),hss,Nat.sub_self,List.set_cons_zero,List.append_assoc]
     rfl
    rw[hSet,hk,Zci hI.lo,Zci hI.ll,w64S (i:=i) (by omega)]
    have t0:=hK.t0
    have t1:=hK.t1
    have hih:=ih (i+1) _ _ (ss++[d+(actE n.Table x (totS (insE o (ws.drop (wcn n i)) x))).2.1.Scale]) (y+(actE n.Table x (totS (insE o (ws.drop (wcn n i)) x))).2.2) (dlt hd hd' h) hlt hI2 (by simp[hss]) (by omega) (by omega)
    rw[hd'] at hih
    refine hih.trans ?_
    have hw:ws.drop (wcn n (i+1))=if x.Kind=1 then(ws.drop (wcn n i)).drop 1 else ws.drop (wcn n i):=by
     rw[Qnq hg]
     split
     ·rw[List.drop_drop]
     ·rfl
    rw[hw]
def Qvd (n:GNet) (st:List Int) (ws:List Qaa):Nat⊕Q25:=Qsp n.Table (n.Elements.zip st) ws [] [] [] 0
include hs hN hv hf hst in
theorem Zty:Qgc N n st ws=Qug (Qvd n st ws) (fun a=>some (.inl (a:Int))) (fun r=>some (.inr (-1,r.2.2.2,r.1,r.2.1,r.2.2.1))):=by
 have e0:=hs.e
 have hsl:=Qxq hst
 have hl1:=hv.len.1
 have hne:(!st.isEmpty)=true:=by
  cases st with
  |nil=>simp at hsl;omega
  |cons=>rfl
 unfold Qgc Qga
 simp only[chk,hne,Qbc]
 rw[show(decide (0≤(n.Elements.length:Int))&&decide (24*(n.Elements.length:Int)≤281474976710656)&&decide ((n.Elements.length:Int)≤9223372036854775807))=true by simp;omega,show(decide (0≤(n.Elements.length:Int))&&decide (32*(n.Elements.length:Int)≤281474976710656)&&decide ((n.Elements.length:Int)≤9223372036854775807))=true by simp;omega,show decide ((0+st.length)*8≤140737488355328)=true by simp;omega]
 simp only[cond_true,Option.bind_some,Int.toNat_natCast]
 have:=Zot hs hN hv hf hst (fun x=>match x with |(y12,y13,y14,y15)=>some (.inr (-1,y15,y12,y13,y14))) N 0 [] [] [] 0 (by simp;omega) (Nat.zero_le _) (Qwb n ws) rfl (Int.le_refl _) (by simp)
 simp only[List.nil_append,Nat.sub_zero,List.drop_zero,show wcn n 0=0 from rfl] at this
 refine this.trans ?_
 unfold Qvd
 rfl
end
def fedI (n:GNet) (ws:List Qaa):Int:=
 bif decide (ws.length=wcn n n.Elements.length)&&ws.all strB then(if (totS ws).Mass>1000000 then 3 else if (totS ws).Gas>1000000000 then 3 else 0) else 1
theorem Zi5 (N:Nat) (s:Qaa):Qg1 N s=some (bif strB s then 0 else 1):=by
 unfold Qg1
 rw[Qy4]
 cases strB s<;>rfl
theorem Zrv {N:Nat}{n:GNet}(hs:Qik n) (hN:1001≤N) {ws:List Qaa}(hl:ws.length≤1000):Qiq N n ws=some (fedI n ws):=by
 have hc:Qbp N ws=some (ws.any fun x=>!strB x):=by
  unfold Qbp Qb2 Qbc
  refine Qjj (F:=Qbd N ws fun _=>some (-1)) (k:=fun _=>some (-1)) (q:=Qdr N) (fun n y=>rfl) (fun x=>?_) rfl (by omega) (by omega)
  simp only[Qdr,Qj1,Zi5,Option.bind_some]
  cases strB x<;>rfl
 have e0:=hs.e
 have hof:(ofL 1 0 n.Elements).length=wcn n n.Elements.length:=by rw[Qi9];unfold wcn;rw[List.take_length]
 unfold Qiq Qft fedI
 simp only[Qbc,Q6p hs hN 1,Option.bind_some,hc,Qw1,hof,Q3r hl hN]
 by_cases h1:ws.length=wcn n n.Elements.length
 ·rw[decide_eq_true h1,show((ws.length:Int) != (wcn n n.Elements.length:Int))=false by rw[bne_eq_false_iff_eq];omega]
  cases ha:ws.all strB with
  |false=>rfl
  |true=>
   have hall:∀s∈ws,StrV s:=fun s h=>Qpj.1 (List.all_eq_true.1 ha s h)
   rw[Qqg hall hl]
   simp only[cond_false,Bool.not_true,Bool.true_and,cond_true]
   by_cases h2:(totS ws).Mass>1000000
   ·rw[decide_eq_true h2,if_pos h2];rfl
   ·rw[decide_eq_false h2,if_neg h2]
    by_cases h3:(totS ws).Gas>1000000000
    ·rw[decide_eq_true h3,if_pos h3];rfl
    ·rw[decide_eq_false h3,if_neg h3];rfl
 ·rw[decide_eq_false h1,show((ws.length:Int) != (wcn n n.Elements.length:Int))=true by rw[bne_iff_ne];omega];rfl
theorem Znk {n:GNet}{ws:List Qaa}(h:fedI n ws=0):FedV n ws:=by
 unfold fedI at h
 cases hb:decide (ws.length=wcn n n.Elements.length)&&ws.all strB with
 |false=>rw[hb] at h;cases h
 |true=>
  rw[hb,cond_true] at h
  simp only[Bool.and_eq_true,decide_eq_true_eq] at hb
  by_cases h2:(totS ws).Mass>1000000
  ·rw[if_pos h2] at h;cases h
  ·rw[if_neg h2] at h
   by_cases h3:(totS ws).Gas>1000000000
   ·rw[if_pos h3] at h;cases h
   ·exact⟨hb.1,fun s hs=>Qpj.1 (List.all_eq_true.1 hb.2 s hs),by omega,by omega⟩
def Zmj:Qe4:=⟨[],[],[]⟩
structure Zr5 (n:GNet) (st:List Int) (ws:List Qaa) (r:Q25):Prop where
 inv:InvT n ws n.Elements.length r.1 r.2.1
 ss:r.2.2.1=List.zipWith (fun (d:Int) (l:Qa1)=>d+l.Scale) st r.2.1
 y0:0≤r.2.2.2
theorem Q6a {n:GNet}(hv:NetV n) {ws:List Qaa}(hf:FedV n ws) {st:List Int}(hst:StV n st):∀(l:List (Qaf×Int)) (i:Nat) (o:List (List Qaa)) (ls:List Qa1) (ss:List Int) (y:Int) (r:Q25),
  l=(n.Elements.drop i).zip (st.drop i)→i≤n.Elements.length→InvT n ws i o ls→ss=List.zipWith (fun (d:Int) (q:Qa1)=>d+q.Scale) (st.take i) ls→0≤y→Qsp n.Table l (ws.drop (wcn n i)) o ls ss y=.inr r→Zr5 n st ws r
 |[],i,o,ls,ss,y,r,hl,hi,hI,hss,hy,h=>by
  have hsl:=Qxq hst
  have hlen:(n.Elements.drop i).length=0:=by
   have:=congrArg List.length hl
   rw[List.length_zip,List.length_drop,List.length_drop] at this
   simp at this
   rw[List.length_drop];omega
  rw[List.length_drop] at hlen
  have e:i=n.Elements.length:=by omega
  rw[Qsp] at h
  cases h
  subst e
  exact⟨hI,by dsimp only;rw[hss,List.take_of_length_le (by omega)],hy⟩
 |(x,d)::l,i,o,ls,ss,y,r,hl,hi,hI,hss,hy,h=>by
  have hsl:=Qxq hst
  have hlt:i<n.Elements.length:=by
   apply Decidable.byContradiction
   intro hc
   rw[List.drop_of_length_le (by omega)] at hl
   simp at hl
  have hdE:n.Elements.drop i=n.Elements[i]::n.Elements.drop (i+1):=List.drop_eq_getElem_cons hlt
  have hdS:st.drop i=st[i]'(by omega)::st.drop (i+1):=List.drop_eq_getElem_cons (by omega)
  rw[hdE,hdS,List.zip_cons_cons,List.cons.injEq,Prod.mk.injEq] at hl
  obtain⟨⟨hx,hd⟩,hl⟩:=hl
  have hg:n.Elements[i]? = some x:=by rw[hx];exact List.getElem?_eq_getElem hlt
  have hgd:st[i]? = some d:=by rw[hd];exact List.getElem?_eq_getElem _
  rw[Qsp] at h
  by_cases hm:(totS (insE o (ws.drop (wcn n i)) x)).Mass>widI x d
  ·rw[if_pos hm] at h;cases h
  ·rw[if_neg hm] at h
   have hK:=Qz0 hv hf hI hg
   have hI2:=Qzz hv hf hI hg hK
   have hw:ws.drop (wcn n (i+1))=if x.Kind=1 then(ws.drop (wcn n i)).drop 1 else ws.drop (wcn n i):=by
    rw[Qnq hg]
    split
    ·rw[List.drop_drop]
    ·rfl
   rw[←hw] at h
   refine Q6a hv hf hst l (i+1) _ _ _ _ r hl hlt hI2 ?_ (by have:=hK.t0;omega) h
   rw[Qmt hgd,hss,List.zipWith_append (by rw[List.length_take,hI.ll];omega)]
   rfl
theorem Qy7 {n:GNet}(hv:NetV n) {ws:List Qaa}(hf:FedV n ws) {st:List Int}(hst:StV n st) {r:Q25}(h:Qvd n st ws=.inr r):Zr5 n st ws r:=
 Q6a hv hf hst _ 0 [] [] [] 0 r (by simp) (Nat.zero_le _) (Qwb n ws) (by simp) (Int.le_refl _) h
end
section
set_option maxRecDepth 100000
set_option maxHeartbeats 4000000
open Go.RowKit
def Qjf (_N:Nat) (p0:GRow) (p1:Qaa):Option Qe2:=
  (some (w64 (p1.Heat-(w64 (p1.Mass*p0.Liquid))))).bind fun x1=>
  Qbc (fun y3=>
    Qbc (fun _=>
      Qbc (fun ⟨y6,y7,y8,y9,y10,y11⟩=>
        Qbc (fun y13=>
          (some (if (w64 (p1.Silica-(w64 (y9*p0.Silica))))>0 then w64 (p1.Silica-(w64 (y9*p0.Silica))) else 0)).bind fun x15=>
          some (⟨(⟨y6,y7,0,y8⟩:Qaa),(⟨y9,y10,w64 (p1.Silica-x15),y11⟩:Qaa),y13,x15⟩:Qe2)) fun k14:Int→Option Qe2=>
        bif (decide (x1>0)) then
         k14 (w64 (y10-(w64 (y9*p0.Liquid))))
        else
         k14 (0)) fun k12:Int×Int×Int×Int×Int×Int→Option Qe2=>
      bif (decide (y3>0)) then
       k12 (y3,w64 (y3*p0.Vapour),p1.Gas,w64 (p1.Mass-y3),w64 (p1.Heat-(w64 (y3*p0.Vapour))),0)
      else
       k12 (0,0,0,p1.Mass,p1.Heat,p1.Gas)) fun k5:Unit→Option Qe2=>
    bif (y3==p1.Mass) then
     bif (decide (y3>0)) then
      some (⟨(⟨y3,p1.Heat,0,p1.Gas⟩:Qaa),(⟨0,0,0,0⟩:Qaa),0,p1.Silica⟩:Qe2)
     else
      k5 ()
    else
     k5 ()) fun k4:Int→Option Qe2=>
  bif (decide (x1>0)) then
   bif (decide (p1.Heat≥(w64 (p1.Mass*p0.Vapour)))) then
    k4 (p1.Mass)
   else
    chk ((w64 (p0.Vapour-p0.Liquid)) != 0)<|
    (some (w64 (x1.tdiv (w64 (p0.Vapour-p0.Liquid))))).bind fun x24=>
    k4 (x24)
  else
   k4 (0)
def Qm7 (p0:GRow):Slot:=.own 5 [[(I p0.T),(I p0.P),(I p0.Liquid),(I p0.Vapour),(I p0.Silica)]]
def Qm6 (p1:Qaa):Slot:=.own 4 [[(I p1.Mass),(I p1.Heat),(I p1.Silica),(I p1.Gas)]]
def Qlp:Slot:=.own 10 [[(I (0)),(I (0)),(I (0)),(I (0)),(I (0)),(I (0)),(I (0)),(I (0)),(I (0)),(I (0))]]
theorem Qvr (N:Nat) (p0:GRow) (p1:Qaa) (r:Qe2) (h:Qjf N p0 p1=some r):Spec prog 63 [(.agg (Qap p0)),(.agg (Qad p1))] [] (.agg (Qsb r)) []:=by
  refine sA func63 0 fun _ _ _ hq hd0=>?_
  unfold Qjf at h
  refine wxz ?_
  obtain⟨x1,hl2,h⟩:=bno h
  refine wx tbk [(8,rp [(.tmp 15,(I (w64 (p1.Heat-(w64 (p1.Mass*p0.Liquid))))))] (I x1))] ⟨Qhe hl2 (aas rfl),tv⟩<|wxz ?_
  obtain⟨k4,hk_k4,h⟩:=jko h
  refine wjn (τ:=Int) (fun t=>k4 t=some r) (fun y3=>⟨mk 118 [(2,.ref 0 5 0 0),(3,.ref 1 4 0 0),(4,.ref 2 10 0 0),(5,I x1),(6,I y3)],[(Qm7 p0),(Qm6 p1),Qlp]⟩) (fun y3 h=>?_) ?_
  ·subst hk_k4
   refine wxz ?_
   obtain⟨k5,hk_k5,h⟩:=jko h
   refine wjn (τ:=Unit) (fun t=>k5 t=some r) (fun _=>⟨mk 118 [(2,.ref 0 5 0 0),(3,.ref 1 4 0 0),(4,.ref 2 10 0 0),(5,I x1),(6,I y3),(7,.ref 3 10 0 0)],[(Qm7 p0),(Qm6 p1),Qlp,Qlp]⟩) (fun t h=>?_) ?_
   ·subst hk_k5
    refine wxz ?_
    obtain⟨k12,hk_k12,h⟩:=jko h
    refine wjn (τ:=Int×Int×Int×Int×Int×Int) (fun t=>k12 t=some r) (fun ⟨y6,y7,y8,y9,y10,y11⟩=>⟨mk 118 [(2,.ref 0 5 0 0),(3,.ref 1 4 0 0),(4,.ref 2 10 0 0),(5,I x1),(7,.ref 3 10 0 0)],[(Qm7 p0),(Qm6 p1),Qlp,(.own 10 [[I y6,I y7,I 0,I y8,I y9,I y10,I p1.Silica,I y11,I 0,I 0]])]⟩) (fun t h=>?_) ?_
    ·subst hk_k12
     obtain⟨y6,y7,y8,y9,y10,y11⟩:=t
     obtain⟨k14,hk_k14,h⟩:=jko h
     refine wjn (τ:=Int) (fun t=>k14 t=some r) (fun y13=>⟨mk 118 [(2,.ref 0 5 0 0),(3,.ref 1 4 0 0),(4,.ref 2 10 0 0),(7,.ref 3 10 0 0)],[(Qm7 p0),(Qm6 p1),Qlp,(.own 10 [[I y6,I y7,I 0,I y8,I y9,I y10,I p1.Silica,I y11,I y13,I 0]])]⟩) (fun y13 h=>?_) ?_
     ·subst hk_k14
      obtain⟨x15,hl16,h⟩:=bno h
      refine wx tbk [(9,rp [ci 0,(.tmp 107,(I (w64 (p1.Silica-(w64 (y9*p0.Silica))))))] (I x15))] ⟨Qhe hl16 (Qmh rfl),tv⟩<|wxz<|wxz<|Qai ?_
      obtain rfl:=osi h
      exact fie [(.agg [I y6,I y7,I 0,I y8,I y9,I y10,(I (w64 (p1.Silica-x15))),I y11,I y13,I x15])] ⟨Qbv (n:=2) (m:=10) (j:=0) (i:=0) (xs:=[[I y6,I y7,I 0,I y8,I y9,I y10,(I (w64 (p1.Silica-x15))),I y11,I y13,I x15]]) (by kernel_rfl) (by kernel_rfl) Zml (by decide) rfl (nle rfl) rfl,tv⟩
     ·skip
      refine wxz ?_
      refine bfe h (fun hc17 h=>?_) fun hc17 h=>?_
      ·exact wft hc17<|wxz1<|thn<|⟨(w64 (y10-(w64 (y9*p0.Liquid)))),h,(mto (n:=118) [(2,.ref 0 5 0 0),(3,.ref 1 4 0 0),(4,.ref 2 10 0 0),(7,.ref 3 10 0 0)] [0,1,2,3] [(Qm7 p0),(Qm6 p1),Qlp,(.own 10 [[I y6,I y7,I 0,I y8,I y9,I y10,I p1.Silica,I y11,(I (w64 (y10-(w64 (y9*p0.Liquid))))),I 0]])] hq (prr (prr (prr (prr pn)))) (qb (lcc (lcc (lc rwl ln))) (qb (lcc (lcc ln)) (qb (lcc (lcc (lcc (lcc (lcc ln))))) (qb (lcc (lcc (lcc (lcc (lcc ln))))) qn)))))⟩
      ·exact wfn hc17<|Qal<|thn<|⟨(0),h,(mto (n:=118) [(2,.ref 0 5 0 0),(3,.ref 1 4 0 0),(4,.ref 2 10 0 0),(7,.ref 3 10 0 0)] [0,1,2,3] [(Qm7 p0),(Qm6 p1),Qlp,(.own 10 [[I y6,I y7,I 0,I y8,I y9,I y10,I p1.Silica,I y11,I 0,I 0]])] hq (prr (prr (prr (prr pn)))) (qb (lcc (lcc (lc rwl ln))) (qb (lcc (lcc ln)) (qb (lcc (lcc (lcc (lcc (lcc ln))))) (qb (lcc (lcc (lcc (lcc (lcc ln))))) qn)))))⟩
    ·skip
     refine wxz ?_
     refine bfe h (fun hc18 h=>?_) fun hc18 h=>?_
     ·refine wft hc18<|wx tbk [(7,rp _ _)] ⟨Qaz (vs:=[I y3,(I (w64 (y3*p0.Vapour))),I p1.Gas]) rfl ts89 tz89 rfl (by rfl) rfl,tv⟩ ?_
      exact wx1 tbk [(13,rp _ _)] ⟨Qaz (vs:=[(I (w64 (p1.Mass-y3))),(I (w64 (p1.Heat-(w64 (y3*p0.Vapour))))),I p1.Silica]) rfl ts89 tz89 rfl (by rfl) rfl,tv⟩<|thn<|⟨(y3,w64 (y3*p0.Vapour),p1.Gas,w64 (p1.Mass-y3),w64 (p1.Heat-(w64 (y3*p0.Vapour))),0),h,(mto (n:=118) [(2,.ref 0 5 0 0),(3,.ref 1 4 0 0),(4,.ref 2 10 0 0),(5,I x1),(7,.ref 3 10 0 0)] [0,1,2,3] [(Qm7 p0),(Qm6 p1),Qlp,(.own 10 [[I y3,(I (w64 (y3*p0.Vapour))),I 0,I p1.Gas,(I (w64 (p1.Mass-y3))),(I (w64 (p1.Heat-(w64 (y3*p0.Vapour))))),I p1.Silica,I 0,I 0,I 0]])] hq (prr (prr (prr (pw (prr pn))))) (qb (lcc (lcc (lc rwl ln))) (qb (lcc (lcc ln)) (qb (lcc (lcc (lcc (lcc (lcc ln))))) (qb (lcc (lcc (lcc (lcc (lcc ln))))) qn)))))⟩
     ·exact wfn hc18<|Qal<|thn<|⟨(0,0,0,p1.Mass,p1.Heat,p1.Gas),h,(mto (n:=118) [(2,.ref 0 5 0 0),(3,.ref 1 4 0 0),(4,.ref 2 10 0 0),(5,I x1),(7,.ref 3 10 0 0)] [0,1,2,3] [(Qm7 p0),(Qm6 p1),Qlp,(.own 10 [[I 0,I 0,I 0,I 0,I p1.Mass,I p1.Heat,I p1.Silica,I p1.Gas,I 0,I 0]])] hq (prr (prr (prr (pw (prr pn))))) (qb (lcc (lcc (lc rwl ln))) (qb (lcc (lcc ln)) (qb (lcc (lcc (lcc (lcc (lcc ln))))) (qb (lcc (lcc (lcc (lcc (lcc ln))))) qn)))))⟩
   ·skip
    refine bfe h (fun hb19 h=>?_) fun hb19 h=>?_
    ·refine wx tbk [(4,rp [(.tmp 42,(B ((y3==p1.Mass))))] (B true))] ⟨asb hb19 (amv rfl),tv⟩ ?_
     refine bfe h (fun hc20 h=>?_) fun hc20 h=>?_
     ·refine wft hc20<|wx tbk [(5,rp _ _)] ⟨Qaz (vs:=[I y3,I p1.Heat,I p1.Gas]) rfl ts89 tz89 rfl (by rfl) rfl,tv⟩<|wxz<|wxz<|Qai<|Qaj ?_
      obtain rfl:=osi h
      exact fie [(.agg [I y3,I p1.Heat,I 0,I p1.Gas,I 0,I 0,I 0,I 0,I 0,I p1.Silica])] ⟨Qbv (n:=2) (m:=10) (j:=0) (i:=0) (xs:=[[I y3,I p1.Heat,I 0,I p1.Gas,I 0,I 0,I 0,I 0,I 0,I p1.Silica]]) (by kernel_rfl) (by kernel_rfl) Zml (by decide) rfl (nle rfl) rfl,tv⟩
     ·exact wfn hc20<|Qal<|thn<|⟨(),h,(mto (n:=118) [(2,.ref 0 5 0 0),(3,.ref 1 4 0 0),(4,.ref 2 10 0 0),(5,I x1),(6,I y3),(7,.ref 3 10 0 0)] [0,1,2,3] [(Qm7 p0),(Qm6 p1),Qlp,Qlp] hq (prr (prr (prr (pw (pw (prr pn)))))) (qb (lcc (lcc (lc rwl ln))) (qb (lcc (lcc ln)) (qb (lcc (lcc (lcc (lcc (lcc ln))))) (qb (lcc (lcc (lcc (lcc (lcc ln))))) qn)))))⟩
    ·exact wx tbk [(4,rp [(.tmp 42,(B ((y3==p1.Mass))))] (B false))] ⟨asb hb19 (amv rfl),tv⟩<|wfa<|Qal<|thn<|⟨(),h,(mto (n:=118) [(2,.ref 0 5 0 0),(3,.ref 1 4 0 0),(4,.ref 2 10 0 0),(5,I x1),(6,I y3),(7,.ref 3 10 0 0)] [0,1,2,3] [(Qm7 p0),(Qm6 p1),Qlp,Qlp] hq (prr (prr (prr (pw (pw (prr pn)))))) (qb (lcc (lcc (lc rwl ln))) (qb (lcc (lcc ln)) (qb (lcc (lcc (lcc (lcc (lcc ln))))) (qb (lcc (lcc (lcc (lcc (lcc ln))))) qn)))))⟩
  ·skip
   refine bfe h (fun hb21 h=>?_) fun hb21 h=>?_
   ·refine wx tbk [(2,rp [(.tmp 17,(B ((decide (x1>0)))))] (B true))] ⟨asb hb21 (amv rfl),tv⟩ ?_
    refine bfe h (fun hc22 h=>?_) fun hc22 h=>?_
    ·exact wft hc22<|wxz1<|thn<|⟨(p1.Mass),h,(mto (n:=118) [(2,.ref 0 5 0 0),(3,.ref 1 4 0 0),(4,.ref 2 10 0 0),(5,I x1),(6,I p1.Mass)] [0,1,2] [(Qm7 p0),(Qm6 p1),Qlp] hq (prr (prr (prr (pw (pw pn))))) (qb (lcc (lcc (lc rwl ln))) (qb (lcc (lcc ln)) (qb (lcc (lcc (lcc (lcc (lcc ln))))) qn))))⟩
    ·refine wfn hc22<|wxz<|wft hb21 ?_
     obtain⟨hz23,h⟩:=cko h
     obtain⟨x24,hl25,h⟩:=bno h
     exact wx1 tbk [(6,rp [(.tmp 32,I x1),(.tmp 37,(I (w64 (p0.Vapour-p0.Liquid))))] (I (w64 (x1.tdiv (w64 (p0.Vapour-p0.Liquid)))))),(7,rp [(.tmp 38,(I (w64 (x1.tdiv (w64 (p0.Vapour-p0.Liquid))))))] (I x24))] ⟨Qj9 rfl (Qkl hz23),Qhe hl25 (aas rfl),tv⟩<|thn<|⟨(x24),h,(mto (n:=118) [(2,.ref 0 5 0 0),(3,.ref 1 4 0 0),(4,.ref 2 10 0 0),(5,I x1),(6,I x24)] [0,1,2] [(Qm7 p0),(Qm6 p1),Qlp] hq (prr (prr (prr (pw (pw pn))))) (qb (lcc (lcc (lc rwl ln))) (qb (lcc (lcc ln)) (qb (lcc (lcc (lcc (lcc (lcc ln))))) qn))))⟩
   ·exact wx tbk [(2,rp [(.tmp 17,(B ((decide (x1>0)))))] (B false))] ⟨asb hb21 (amv rfl),tv⟩<|wfa<|wxz<|wfn hb21<|Qal<|thn<|⟨(0),h,(mto (n:=118) [(2,.ref 0 5 0 0),(3,.ref 1 4 0 0),(4,.ref 2 10 0 0),(5,I x1),(6,I 0)] [0,1,2] [(Qm7 p0),(Qm6 p1),Qlp] hq (prr (prr (prr (pw (pw pn))))) (qb (lcc (lcc (lc rwl ln))) (qb (lcc (lcc ln)) (qb (lcc (lcc (lcc (lcc (lcc ln))))) qn))))⟩
def Qfy (N:Nat) (p0:List Qaa) (k5:Int×Int×Int×Int→Option Qaa):Nat→Int→Int→Int→Int→Int→Option Qaa
  |0,_,_,_,_,_=>none
  |n16+1,y6,y7,y8,y9,y10=>
    bif (decide (y6<(p0.length:Int))) then
     (getI p0 y6).bind fun x18=>
     Qfy N p0 k5 n16 (w64 (y6+1)) (w64 (y7+x18.Mass)) (w64 (y8+x18.Heat)) (w64 (y9+x18.Silica)) (w64 (y10+x18.Gas))
    else
     k5 (y7,y8,y9,y10)
def Qio (N:Nat) (p0:List Qaa):Option Qaa:=
  Qbc (fun ⟨y1,y2,y3,y4⟩=>
    some (⟨y1,y2,y3,y4⟩:Qaa)) fun k5:Int×Int×Int×Int→Option Qaa=>
  Qfy N p0 k5 N 0 0 0 0 0
def Qtp:Slot:=.own 4 [[(I (0)),(I (0)),(I (0)),(I (0))]]
def Q54 (p0:List Qaa):AV:=.dat 4 (p0.map Qad)
theorem Qnu (N:Nat) (p0:List Qaa) (r:Qaa) (h:Qio N p0=some r):Spec prog 38 [(.dat 4 (p0.map Qad))] [] (.agg (Qad r)) []:=by
  refine sA func38 0 fun _ _ _ hq hd0=>?_
  unfold Qio at h
  refine wxz<|wxz ?_
  obtain⟨k5,hk_k5,h⟩:=jko h
  refine wjn (τ:=Int×Int×Int×Int) (fun t=>k5 t=some r) (fun ⟨y1,y2,y3,y4⟩=>⟨mk 45 [(2,.ref 0 4 0 0),(3,.ref 1 4 0 0)],[Qtp,(.own 4 [[I y1,I y2,I y3,I y4]])]⟩) (fun t h=>?_) ?_
  ·subst hk_k5
   obtain⟨y1,y2,y3,y4⟩:=t
   refine wxz<|Qai ?_
   obtain rfl:=osi h
   exact fie [(.agg [I y1,I y2,I y3,I y4])] ⟨Qbv (n:=0) (m:=4) (j:=0) (i:=0) (xs:=[[I y1,I y2,I y3,I y4]]) (by kernel_rfl) (by kernel_rfl) ti89 (by decide) rfl (nle rfl) rfl,tv⟩
  ·skip
   refine wxz<|Qam ?_
   refine wmr (mto (n:=45) (l':=[(0,(Q54 p0)),(2,.ref 0 4 0 0),(3,.ref 1 4 0 0),(4,I 0)]) (own':=[Qtp,Qtp]) [(0,(Q54 p0)),(2,.ref 0 4 0 0),(3,.ref 1 4 0 0),(4,I 0)] [0,1] [Qtp,Qtp] hq (pc (rnd Qan) (prr (prr (pw pn)))) (qb (lcc (lcc ln)) (qb (lcc (lcc ln)) qn))) ?_
   refine Qbl (τ:=Int×Int×Int×Int×Int) (fun n t=>Qfy N p0 k5 n t.1 t.2.1 t.2.2.1 t.2.2.2.1 t.2.2.2.2=some r) (fun ⟨y6,y7,y8,y9,y10⟩=>⟨mk 45 [(0,(Q54 p0)),(2,.ref 0 4 0 0),(3,.ref 1 4 0 0),(4,I y6)],[Qtp,(.own 4 [[I y7,I y8,I y9,I y10]])]⟩) (fun t h=>by rw[Qfy] at h;cases h) (fun n16 ih t h=>?_) N (0,0,0,0,0) h
   obtain⟨y6,y7,y8,y9,y10⟩:=t
   rw[Qfy] at h
   skip
   refine wsq<|wx tbk [(2,rp _ _)] ⟨alq 4 Qad p0 underlying28,tv⟩ ?_
   refine bfe h (fun hc17 h=>?_) fun hc17 h=>?_
   ·refine wft hc17<|Qal<|thn<|wsq<|Qam ?_
    obtain⟨x18,hg19,h⟩:=bno h
    obtain⟨hi20,hj21⟩:=gsm hg19
    refine wy1 tbk [(4,rp _ _),(12,rp _ _),(20,rp _ _),(28,rp _ _),(32,rp _ _)] ⟨aiq underlying28 ti89 Qad hi20 hj21,aiq underlying28 ti89 Qad hi20 hj21,aiq underlying28 ti89 Qad hi20 hj21,aiq underlying28 ti89 Qad hi20 hj21,Qaz (vs:=[(I (w64 (y7+x18.Mass))),(I (w64 (y8+x18.Heat))),(I (w64 (y9+x18.Silica))),(I (w64 (y10+x18.Gas)))]) rfl ts89 tz89 rfl (by rfl) rfl,tv⟩<|bln<|thn<|wxz1<|thn ?_
    exact arm (mto (n:=45) [(0,(Q54 p0)),(2,.ref 0 4 0 0),(3,.ref 1 4 0 0),(4,(I (w64 (y6+1))))] [0,1] [Qtp,(.own 4 [[(I (w64 (y7+x18.Mass))),(I (w64 (y8+x18.Heat))),(I (w64 (y9+x18.Silica))),(I (w64 (y10+x18.Gas)))]])] hq (pc (rnd Qan) (prr (prr (pw pn)))) (qb (lcc (lcc ln)) (qb (lcc (lcc ln)) qn))) (ih (w64 (y6+1),w64 (y7+x18.Mass),w64 (y8+x18.Heat),w64 (y9+x18.Silica),w64 (y10+x18.Gas)) h)
   ·exact wfn hc17<|Qa6<|Qau<|Qau<|Qa5 rfl<|thn<|⟨(y7,y8,y9,y10),h,(mto (n:=45) [(2,.ref 0 4 0 0),(3,.ref 1 4 0 0)] [0,1] [Qtp,(.own 4 [[I y7,I y8,I y9,I y10]])] hq (prr (prr pn)) (qb (lcc (lcc ln)) (qb (lcc (lcc ln)) qn)))⟩
def Qi7 (_N:Nat) (p0 p1 p2:Int):Option Int:=
  bif (p2==0) then
   some 0
  else
   chk (p2 != 0)<|
   (some (w64 ((w64 (p0*p1)).tdiv p2))).bind fun x3=>
   some x3
theorem Qm2 (N:Nat) (p0 p1:Int) (p2 r:Int) (h:Qi7 N p0 p1 p2=some r):Spec prog 99 [(I p0),(I p1),(I p2)] [] (I r) []:=by
  refine sA func99 0 fun _ _ _ hq hd0=>?_
  unfold Qi7 at h
  refine wxz<|wsq<|wxz ?_
  refine bfe h (fun hc1 h=>?_) fun hc1 h=>?_
  ·refine wft hc1<|wxz<|Qai<|Qaj ?_
   obtain rfl:=osi h
   exact fend ⟨[I 0],⟨rot,tv⟩,rfl⟩ nll
  ·refine wfn hc1<|Qal<|thn ?_
   obtain⟨hz2,h⟩:=cko h
   obtain⟨x3,hl4,h⟩:=bno h
   refine wx tbk [(4,rp [(.tmp 11,(I (w64 (p0*p1)))),(.tmp 12,I p2)] (I (w64 ((w64 (p0*p1)).tdiv p2)))),(5,rp [(.tmp 13,(I (w64 ((w64 (p0*p1)).tdiv p2))))] (I x3))] ⟨Qj9 rfl (Qkl hz2),Qhe hl4 (aas rfl),tv⟩<|Qai ?_
   obtain rfl:=osi h
   exact fend ⟨[I x3],⟨rot,tv⟩,rfl⟩ nll
def Qex (N:Nat) (p0:Qaa) (p1 y8:List Int) (k14:(List Qaa)×Int×Int×Int→Option ((List Qaa)×Qht)):Nat→(List Qaa)→Int→Int→Int→Int→Option ((List Qaa)×Qht)
  |0,_,_,_,_,_=>none
  |n25+1,y15,y16,y17,y18,y19=>
    bif (decide (y16<(p1.length:Int))) then
     chk (decide (0≤y16)&&decide (y16.toNat<(p1.length:Int).toNat))<|
     (y8[y16.toNat]?).bind fun x28=>
     (Qi7 N p0.Heat x28 p0.Mass).bind fun x31=>
     (Qi7 N p0.Silica x28 p0.Mass).bind fun x33=>
     (Qi7 N p0.Gas x28 p0.Mass).bind fun x35=>
     chk (decide ((y15.length+([(⟨x28,x31,x33,x35⟩:Qaa)]).length)*32≤140737488355328))<|
     Qex N p0 p1 y8 k14 n25 (y15++([(⟨x28,x31,x33,x35⟩:Qaa)])) (w64 (y16+1)) (w64 (y17-x31)) (w64 (y18-x33)) (w64 (y19-x35))
    else
     k14 (y15,y17,y18,y19)
def Qc0 (N:Nat) (p0:Qaa) (p1:List Int) (y1:Int) (y39:List Bool) (k46:Int→Option ((List Qaa)×Qht)):Nat→Int→Int→Option ((List Qaa)×Qht)
  |0,_,_=>none
  |n60+1,y56,y57=>
    bif (decide (y57<(p1.length:Int))) then
     chk (decide (0≤y57)&&decide (y57.toNat<(p1.length:Int).toNat))<|
     (y39[y57.toNat]?).bind fun x63=>
     bif (!x63) then
      bif (decide (y56<0)) then
       Qc0 N p0 p1 y1 y39 k46 n60 y57 (w64 (y57+1))
      else
       (getI p1 y57).bind fun x67=>
       chk (y1 != 0)<|
       (getI p1 y56).bind fun x72=>
       chk (y1 != 0)<|
       bif (decide (((w64 (p0.Mass*x67)).tmod y1)>((w64 (p0.Mass*x72)).tmod y1))) then
        Qc0 N p0 p1 y1 y39 k46 n60 y57 (w64 (y57+1))
       else
        Qc0 N p0 p1 y1 y39 k46 n60 y56 (w64 (y57+1))
     else
      Qc0 N p0 p1 y1 y39 k46 n60 y56 (w64 (y57+1))
    else
     k46 (y56)
def Qew (N:Nat) (p0:Qaa) (p1:List Int) (y1:Int) (k9:(List Int)→Option ((List Qaa)×Qht)):Nat→Int→(List Int)→(List Bool)→Option ((List Qaa)×Qht)
  |0,_,_,_=>none
  |n43+1,y37,y38,y39=>
    bif (decide (y37>0)) then
     Qbc (fun y45=>
       chk (decide (0≤y45)&&decide (y45.toNat<(p1.length:Int).toNat))<|
       (y39[y45.toNat]?).bind fun _=>
       chk (decide (0≤y45)&&decide (y45.toNat<(p1.length:Int).toNat))<|
       (y38[y45.toNat]?).bind fun x51=>
       chk (decide (0≤y45)&&decide (y45.toNat<(p1.length:Int).toNat))<|
       (y38[y45.toNat]?).bind fun _=>
       Qew N p0 p1 y1 k9 n43 (w64 (y37-1)) (y38.set y45.toNat (w64 (x51+1))) (y39.set y45.toNat true)) fun k46:Int→Option ((List Qaa)×Qht)=>
     Qc0 N p0 p1 y1 y39 k46 N (-1) 0
    else
     k9 (y38)
def Qev (N:Nat) (p0:Qaa) (p1:List Int) (y1:Int) (k6:Int×(List Int)→Option ((List Qaa)×Qht)):Nat→Int→Int→(List Int)→Option ((List Qaa)×Qht)
  |0,_,_,_=>none
  |n84+1,y78,y79,y80=>
    bif (decide (y79<(p1.length:Int))) then
     (getI p1 y79).bind fun x86=>
     chk (y1 != 0)<|
     chk (decide (0≤y79)&&decide (y79.toNat<(p1.length:Int).toNat))<|
     (y80[y79.toNat]?).bind fun _=>
     chk (decide (0≤y79)&&decide (y79.toNat<(p1.length:Int).toNat))<|
     ((y80.set y79.toNat (w64 ((w64 (p0.Mass*x86)).tdiv y1)))[y79.toNat]?).bind fun x95=>
     Qev N p0 p1 y1 k6 n84 (w64 (y78-x95)) (w64 (y79+1)) (y80.set y79.toNat (w64 ((w64 (p0.Mass*x86)).tdiv y1)))
    else
     k6 (y78,y80)
def Qeu (N:Nat) (p1:List Int) (k2:Int→Option ((List Qaa)×Qht)):Nat→Int→Int→Option ((List Qaa)×Qht)
  |0,_,_=>none
  |n101+1,y97,y98=>
    bif (decide (y98<(p1.length:Int))) then
     (getI p1 y98).bind fun x103=>
     Qeu N p1 k2 n101 (w64 (y97+x103)) (w64 (y98+1))
    else
     k2 (y97)
def Qib (N:Nat) (p0:Qaa) (p1:List Int):Option ((List Qaa)×Qht):=
  Qbc (fun y1=>
    chk (decide (0≤(p1.length:Int))&&decide (8*(p1.length:Int)≤281474976710656)&&decide ((p1.length:Int)≤9223372036854775807))<|
    Qbc (fun ⟨y4,y5⟩=>
      chk (decide (0≤(p1.length:Int))&&decide (1*(p1.length:Int)≤281474976710656)&&decide ((p1.length:Int)≤9223372036854775807))<|
      Qbc (fun y8=>
        Qbc (fun ⟨y10,y11,y12,y13⟩=>
          some (y10,(⟨y11,y12,y13⟩:Qht))) fun k14:(List Qaa)×Int×Int×Int→Option ((List Qaa)×Qht)=>
        Qex N p0 p1 y8 k14 N ([]) 0 p0.Heat p0.Silica p0.Gas) fun k9:(List Int)→Option ((List Qaa)×Qht)=>
      Qew N p0 p1 y1 k9 N y4 y5 (List.replicate (p1.length:Int).toNat false)) fun k6:Int×(List Int)→Option ((List Qaa)×Qht)=>
    Qev N p0 p1 y1 k6 N p0.Mass 0 (List.replicate (p1.length:Int).toNat 0)) fun k2:Int→Option ((List Qaa)×Qht)=>
  Qeu N p1 k2 N 0 0
def Qgg (p0:Qaa):Slot:=.own 4 [[(I p0.Mass),(I p0.Heat),(I p0.Silica),(I p0.Gas)]]
def Qf7:Slot:=.own 3 [[(I (0)),(I (0)),(I (0))]]
def Zkv (p1:List Int):Slot:=.own 1 ((List.replicate (p1.length:Int).toNat 0:List Int).map Qab)
def Zku (p1:List Int):Slot:=.own 1 ((List.replicate (p1.length:Int).toNat false:List Bool).map Qj7)
def Qjl (y39:List Bool):Slot:=.own 1 (y39.map Qj7)
def Qy1 (p1:List Int) (y57:Int) (y39:List Bool) (x63:Bool):List (Nat×Rec):=[(2,rb [((.tmp 71),(.own 3 1 (0) ((p1.length:Int).toNat))),((.tmp 72),(I y57))] [(3,(Qjl y39))] (.ref 3 1 y57.toNat 0)),(3,rb [((.tmp 73),(.ref 3 1 y57.toNat 0))] [(3,(Qjl y39))] (B x63))]
def Qy2 (y80:List Int) (y79:Int) (p0:Qaa) (x86 y1:Int):Slot:=.own 1 ((y80.set y79.toNat (w64 ((w64 (p0.Mass*x86)).tdiv y1)):List Int).map Qab)
theorem Qo3 (N:Nat) (p0:Qaa) (p1:List Int) (r:((List Qaa)×Qht)) (h:Qib N p0 p1=some r):Spec prog 64 [(.agg (Qad p0)),(.dat 1 (p1.map Qab))] [] (.tup [(.dat 4 (r.1.map Qad)),(.agg (Q0e r.2))]) []:=by
  refine sA func64 0 fun _ _ _ hq hd0=>?_
  unfold Qib at h
  refine wxz<|wxe ?_
  obtain⟨k2,hk_k2,h⟩:=jko h
  refine wjn (τ:=Int) (fun t=>k2 t=some r) (fun y1=>⟨mk 172 [(1,(.dat 1 (p1.map Qab))),(2,.ref 0 4 0 0),(5,.ref 1 3 0 0),(6,I y1),(7,I p0.Mass)],[(Qgg p0),Qf7]⟩) (fun y1 h=>?_) ?_
  ·subst hk_k2
   obtain⟨hm3,h⟩:=cko h
   refine wx tbk [(1,rp _ _),(2,⟨[(.tmp 34,(I ((p1.length:Int)))),(.tmp 34,(I ((p1.length:Int))))],[(2,.unused)],(.own 2 1 (0) ((p1.length:Int).toNat)),[(2,(Zkv p1))],false⟩)] ⟨alq 1 Qab p1 underlying27,Qkn rfl underlying27 te3 tz3 rfl (Qw4 hm3) rfl (Qw3 hm3) (Qw2 hm3) (Qst Qab rfl),tv⟩ ?_
   obtain⟨k6,hk_k6,h⟩:=jko h
   refine wjn (τ:=Int×(List Int)) (fun t=>k6 t=some r) (fun ⟨y4,y5⟩=>⟨mk 172 [(1,(.dat 1 (p1.map Qab))),(2,.ref 0 4 0 0),(5,.ref 1 3 0 0),(6,I y1),(7,I y4),(9,(.own 2 1 (0) ((p1.length:Int).toNat)))],[(Qgg p0),Qf7,(.own 1 (y5.map Qab))]⟩) (fun t h=>?_) ?_
   ·subst hk_k6
    obtain⟨y4,y5⟩:=t
    obtain⟨hm7,h⟩:=cko h
    refine wx tbk [(1,rp _ _),(2,⟨[(.tmp 61,(I ((p1.length:Int)))),(.tmp 61,(I ((p1.length:Int))))],[(3,.unused)],(.own 3 1 (0) ((p1.length:Int).toNat)),[(3,(Zku p1))],false⟩)] ⟨alq 1 Qab p1 underlying27,Qkn rfl underlying185 te4 tz4 rfl (Qw4 hm7) rfl (Qw3 hm7) (Qw2 hm7) (Qst Qj7 rfl),tv⟩ ?_
    obtain⟨k9,hk_k9,h⟩:=jko h
    refine wjn (τ:=(List Int)) (fun t=>k9 t=some r) (fun y8=>⟨mk 172 [(1,(.dat 1 (p1.map Qab))),(2,.ref 0 4 0 0),(5,.ref 1 3 0 0),(9,(.own 2 1 (0) ((p1.length:Int).toNat)))],[(Qgg p0),Qf7,(.own 1 (y8.map Qab))]⟩) (fun y8 h=>?_) ?_
    ·subst hk_k9
     refine wx tbk [(6,rp _ _)] ⟨Qaz (vs:=[I p0.Heat,I p0.Silica,I p0.Gas]) rfl Zq4 Zmg rfl (by rfl) rfl,tv⟩<|wxz ?_
     obtain⟨k14,hk_k14,h⟩:=jko h
     refine wjn (τ:=(List Qaa)×Int×Int×Int) (fun t=>k14 t=some r) (fun ⟨y10,y11,y12,y13⟩=>⟨mk 172 [(5,.ref 0 3 0 0),(14,.ref 1 3 0 0),(15,(.acc 2 89 4 (y10.map Qad)))],[Qf7,(.own 3 [[I y11,I y12,I y13]]),.tok]⟩) (fun t h=>?_) ?_
     ·subst hk_k14
      obtain⟨y10,y11,y12,y13⟩:=t
      refine wxe<|Qai ?_
      obtain rfl:=osi h
      exact fie [(.dat 4 (y10.map Qad)),(.agg [I y11,I y12,I y13])] ⟨Qbz (v:=(.acc 2 89 4 (y10.map Qad))) rot Less.acc,Qbv (n:=0) (m:=3) (j:=0) (i:=0) (xs:=[[I y11,I y12,I y13]]) (by kernel_rfl) (by kernel_rfl) Zq9 (by decide) rfl (nle rfl) rfl,tv⟩
     ·skip
      refine wxz<|Qam ?_
      refine wmr (Mor.trans (Qo9 4 89 4 15 (by kernel_rfl) (by kernel_rfl)) (mto (n:=172) (l':=[(1,(.dat 1 (p1.map Qab))),(2,.ref 0 4 0 0),(5,.ref 1 3 0 0),(9,(.own 2 1 (0) ((p1.length:Int).toNat))),(14,.ref 3 3 0 0),(15,(.acc 4 89 4 ((([]):List Qaa).map Qad))),(16,I 0)]) (own':=[(Qgg p0),Qf7,(.own 1 (y8.map Qab)),(.own 3 [[I p0.Heat,I p0.Silica,I p0.Gas]]),.tok]) [(1,(.dat 1 (p1.map Qab))),(2,.ref 0 4 0 0),(5,.ref 1 3 0 0),(9,(.own 2 1 (0) ((p1.length:Int).toNat))),(14,.ref 3 3 0 0),(15,(.acc 4 89 4 (([]:List Qaa).map Qad))),(16,I 0)] [0,1,2,3,4] [(Qgg p0),Qf7,(.own 1 (y8.map Qab)),(.own 3 [[I p0.Heat,I p0.Silica,I p0.Gas]]),.tok] hq (pc (rnd Qah) (prr (prr (pc (.rn (Qav rfl)) (prr (pc (.rn (Qa2 rfl (Qay Qan _))) (pw pn))))))) (qb (lcc (lcc ln)) (qb (lcc (lc rwl ln)) (qc (spr Qah) (qb (lcc (lc rwl ln)) (qc .tok qn))))))) ?_
      refine Qbl (τ:=(List Qaa)×Int×Int×Int×Int) (fun n t=>Qex N p0 p1 y8 k14 n t.1 t.2.1 t.2.2.1 t.2.2.2.1 t.2.2.2.2=some r) (fun ⟨y15,y16,y17,y18,y19⟩=>⟨mk 172 [(1,(.dat 1 (p1.map Qab))),(2,.ref 0 4 0 0),(5,.ref 1 3 0 0),(9,(.own 2 1 (0) ((p1.length:Int).toNat))),(14,.ref 3 3 0 0),(15,(.acc 4 89 4 (y15.map Qad))),(16,I y16)],[(Qgg p0),Qf7,(.own 1 (y8.map Qab)),(.own 3 [[I y17,I y18,I y19]]),.tok]⟩) (fun t h=>by rw[Qex] at h;cases h) (fun n25 ih t h=>?_) N ([],0,p0.Heat,p0.Silica,p0.Gas) h
      obtain⟨y15,y16,y17,y18,y19⟩:=t
      rw[Qex] at h
      skip
      refine wsq<|wx tbk [(2,rp _ _)] ⟨alq 1 Qab p1 underlying27,tv⟩ ?_
      refine bfe h (fun hc26 h=>?_) fun hc26 h=>?_
      ·refine wft hc26<|Qal<|thn<|wsq<|Qam ?_
       obtain⟨hi27,h⟩:=cko h
       obtain⟨hi27a,hi27b⟩:=Qcu hi27
       obtain⟨x28,hg29,h⟩:=bno h
       refine wx tbk [(2,rb [(.tmp 126,(.own 2 1 (0) ((p1.length:Int).toNat))),(.tmp 127,I y16)] [(2,(.own 1 (y8.map Qab)))] (.ref 2 1 y16.toNat 0)),(3,rb [(.tmp 128,(.ref 2 1 y16.toNat 0))] [(2,(.own 1 (y8.map Qab)))] (I x28))] ⟨aio rfl underlying27 ti3 (odt hi27a) (odt hi27b) (Nat.zero_add _),ald rfl ti3 (by decide) (mgt Qab hg29) (nle rfl) rfl,tv⟩ ?_
       obtain⟨x31,hf30,h⟩:=bno h
       obtain⟨x33,hf32,h⟩:=bno h
       obtain⟨x35,hf34,h⟩:=bno h
       refine wxd tbk [(6,rp _ _),(12,rp _ _),(18,rp _ _),(19,rp _ _)] ⟨apw Q4g (Qm2 N p0.Heat x28 p0.Mass _ hf30),apw Q4g (Qm2 N p0.Silica x28 p0.Mass _ hf32),apw Q4g (Qm2 N p0.Gas x28 p0.Mass _ hf34),Qaz (vs:=[I x28,I x31,I x33,I x35]) rfl ts89 tz89 rfl (by rfl) rfl,tv⟩ ?_
       obtain⟨ha36,h⟩:=cko h
       refine wx tbk [(2,rp [(.tmp 151,(.agg [I x28,I x31,I x33,I x35]))] (.dat 4 (([(⟨x28,x31,x33,x35⟩:Qaa)]:List Qaa).map Qad))),(3,⟨[(.tmp 150,(.acc 4 89 4 (y15.map Qad))),(.tmp 152,(.dat 4 (([(⟨x28,x31,x33,x35⟩:Qaa)]:List Qaa).map Qad)))],[(4,.tok),(6,.unused)],(.acc 6 89 4 ((y15++([(⟨x28,x31,x33,x35⟩:Qaa)]):List Qaa).map Qad)),[(4,.dead),(6,.tok)],false⟩)] ⟨Qbm (vs:=[(.agg [I x28,I x31,I x33,I x35])]) rfl underlying28 ti89 tz89 rfl (by decide) rfl (by decide) (by rfl) (by rfl) (by rfl) rfl,Qc6 rfl underlying28 te89 (Base.acc _ _) rfl rfl (by rfl) (Qf6 Qad ha36) (Qf5 Qad ha36 (by decide)) (Qf4 Qad) rfl rfl,tv⟩ ?_
       exact wx1 tbk [(15,rp _ _)] ⟨Qaz (vs:=[(I (w64 (y17-x31))),(I (w64 (y18-x33))),(I (w64 (y19-x35)))]) rfl Zq4 Zmg rfl (by rfl) rfl,tv⟩<|bln<|thn<|wxz1<|thn<|arm (mto (n:=172) [(1,(.dat 1 (p1.map Qab))),(2,.ref 0 4 0 0),(5,.ref 1 3 0 0),(9,(.own 2 1 (0) ((p1.length:Int).toNat))),(14,.ref 3 3 0 0),(15,(.acc 6 89 4 ((y15++([(⟨x28,x31,x33,x35⟩:Qaa)]):List Qaa).map Qad))),(16,(I (w64 (y16+1))))] [0,1,2,3,6] [(Qgg p0),Qf7,(.own 1 (y8.map Qab)),(.own 3 [[(I (w64 (y17-x31))),(I (w64 (y18-x33))),(I (w64 (y19-x35)))]]),.tok] hq (pc (rnd Qah) (prr (prr (pc (.rn (Qav rfl)) (prr (pc (.rn (Qa2 rfl (Qay Qan _))) (pw pn))))))) (qb (lcc (lcc ln)) (qb (lcc (lc rwl ln)) (qc (spr Qah) (qb (lcc (lc rwl ln)) (qc .tok qn)))))) (ih (y15++([(⟨x28,x31,x33,x35⟩:Qaa)]),w64 (y16+1),w64 (y17-x31),w64 (y18-x33),w64 (y19-x35)) h)
      ·exact wfn hc26<|Qa6<|Qau<|Qau<|Qa5 rfl<|thn<|⟨(y15,y17,y18,y19),h,(mto (n:=172) [(5,.ref 1 3 0 0),(14,.ref 3 3 0 0),(15,(.acc 4 89 4 (y15.map Qad)))] [1,3,4] [Qf7,(.own 3 [[I y17,I y18,I y19]]),.tok] hq (prr (prr (pc (.rn (Qa2 rfl (Qay Qan _))) pn))) (qb (lcc (lc rwl ln)) (qb (lcc (lc rwl ln)) (qc .tok qn))))⟩
    ·skip
     refine Qam<|wmr (mto (n:=172) (l':=[(1,(.dat 1 (p1.map Qab))),(2,.ref 0 4 0 0),(5,.ref 1 3 0 0),(6,I y1),(7,I y4),(9,(.own 2 1 (0) ((p1.length:Int).toNat))),(11,(.own 3 1 (0) ((p1.length:Int).toNat)))]) (own':=[(Qgg p0),Qf7,(.own 1 (y5.map Qab)),(.own 1 (((List.replicate (p1.length:Int).toNat false):List Bool).map Qj7))]) [(1,(.dat 1 (p1.map Qab))),(2,.ref 0 4 0 0),(5,.ref 1 3 0 0),(6,I y1),(7,I y4),(9,(.own 2 1 (0) ((p1.length:Int).toNat))),(11,(.own 3 1 (0) ((p1.length:Int).toNat)))] [0,1,2,3] [(Qgg p0),Qf7,(.own 1 (y5.map Qab)),(Zku p1)] hq (pc (rnd Qah) (prr (prr (pw (pw (pc (.rn (Qav rfl)) (pc (.rn (Qav rfl)) pn))))))) (qb (lcc (lcc ln)) (qb (lcc (lc rwl ln)) (qc (spr Qah) (qc (spr Qif) qn))))) ?_
     refine Qbl (τ:=Int×(List Int)×(List Bool)) (fun n t=>Qew N p0 p1 y1 k9 n t.1 t.2.1 t.2.2=some r) (fun ⟨y37,y38,y39⟩=>⟨mk 172 [(1,(.dat 1 (p1.map Qab))),(2,.ref 0 4 0 0),(5,.ref 1 3 0 0),(6,I y1),(7,I y37),(9,(.own 2 1 (0) ((p1.length:Int).toNat))),(11,(.own 3 1 (0) ((p1.length:Int).toNat)))],[(Qgg p0),Qf7,(.own 1 (y38.map Qab)),(Qjl y39)]⟩) (fun t h=>by rw[Qew] at h;cases h) (fun n43 ih t h=>?_) N (y4,y5,List.replicate (p1.length:Int).toNat false) h
     obtain⟨y37,y38,y39⟩:=t
     rw[Qew] at h
     skip
     refine wsq<|wxz ?_
     refine bfe h (fun hc44 h=>?_) fun hc44 h=>?_
     ·refine wft hc44<|Qal<|thn<|Qam<|wxz ?_
      obtain⟨k46,hk_k46,h⟩:=jko h
      refine wjn (τ:=Int) (fun t=>k46 t=some r) (fun y45=>⟨mk 172 [(1,(.dat 1 (p1.map Qab))),(2,.ref 0 4 0 0),(5,.ref 1 3 0 0),(6,I y1),(7,I y37),(9,(.own 2 1 (0) ((p1.length:Int).toNat))),(11,(.own 3 1 (0) ((p1.length:Int).toNat))),(12,I y45)],[(Qgg p0),Qf7,(.own 1 (y38.map Qab)),(Qjl y39)]⟩) (fun y45 h=>?_) ?_
      ·subst hk_k46
       obtain⟨hi47,h⟩:=cko h
       obtain⟨hi47a,hi47b⟩:=Qcu hi47
       obtain⟨x48,hg49,h⟩:=bno h
       refine wx tbk [(2,rb [(.tmp 102,(.own 3 1 (0) ((p1.length:Int).toNat))),(.tmp 103,I y45)] [(3,(Qjl y39))] (.ref 3 1 y45.toNat 0)),(3,⟨[(.tmp 104,(.ref 3 1 y45.toNat 0)),cb true],[(3,(Qjl y39))],.any,[(3,(.own 1 ((y39.set y45.toNat true:List Bool).map Qj7)))],false⟩)] ⟨aio rfl underlying185 ti4 (odt hi47a) (odt hi47b) (Nat.zero_add _),ast rfl ti4 (by rfl) (mgt Qj7 hg49) (nle rfl) (Qfe Qj7 rfl),tv⟩ ?_
       obtain⟨hi50,h⟩:=cko h
       obtain⟨hi50a,hi50b⟩:=Qcu hi50
       obtain⟨x51,hg52,h⟩:=bno h
       obtain⟨hi53,h⟩:=cko h
       obtain⟨hi53a,hi53b⟩:=Qcu hi53
       obtain⟨x54,hg55,h⟩:=bno h
       refine wx tbk [(2,rb [(.tmp 105,(.own 2 1 (0) ((p1.length:Int).toNat))),(.tmp 106,I y45)] [(2,(.own 1 (y38.map Qab)))] (.ref 2 1 y45.toNat 0)),(3,rb [(.tmp 107,(.ref 2 1 y45.toNat 0))] [(2,(.own 1 (y38.map Qab)))] (I x51)),(5,rb [(.tmp 105,(.own 2 1 (0) ((p1.length:Int).toNat))),(.tmp 106,I y45)] [(2,(.own 1 (y38.map Qab)))] (.ref 2 1 y45.toNat 0)),(6,⟨[(.tmp 110,(.ref 2 1 y45.toNat 0)),(.tmp 109,(I (w64 (x51+1))))],[(2,(.own 1 (y38.map Qab)))],.any,[(2,(.own 1 ((y38.set y45.toNat (w64 (x51+1)):List Int).map Qab)))],false⟩)] ⟨aio rfl underlying27 ti3 (odt hi50a) (odt hi50b) (Nat.zero_add _),ald rfl ti3 (by decide) (mgt Qab hg52) (nle rfl) rfl,aio rfl underlying27 ti3 (odt hi53a) (odt hi53b) (Nat.zero_add _),ast rfl ti3 (by rfl) (mgt Qab hg55) (nle rfl) (Qfe Qab rfl),tv⟩<|wxz1<|bln<|thn ?_
       exact arm (mto (n:=172) [(1,(.dat 1 (p1.map Qab))),(2,.ref 0 4 0 0),(5,.ref 1 3 0 0),(6,I y1),(7,(I (w64 (y37-1)))),(9,(.own 2 1 (0) ((p1.length:Int).toNat))),(11,(.own 3 1 (0) ((p1.length:Int).toNat)))] [0,1,2,3] [(Qgg p0),Qf7,(.own 1 ((y38.set y45.toNat (w64 (x51+1)):List Int).map Qab)),(.own 1 ((y39.set y45.toNat true:List Bool).map Qj7))] hq (pc (rnd Qah) (prr (prr (pw (pw (pc (.rn (Qav rfl)) (pc (.rn (Qav rfl)) pn))))))) (qb (lcc (lcc ln)) (qb (lcc (lc rwl ln)) (qc (spr Qah) (qc (spr Qif) qn))))) (ih (w64 (y37-1),y38.set y45.toNat (w64 (x51+1)),y39.set y45.toNat true) h)
      ·skip
       refine wxz<|Qam ?_
       refine wmr (mto (n:=172) (l':=[(1,(.dat 1 (p1.map Qab))),(2,.ref 0 4 0 0),(5,.ref 1 3 0 0),(6,I y1),(7,I y37),(9,(.own 2 1 (0) ((p1.length:Int).toNat))),(11,(.own 3 1 (0) ((p1.length:Int).toNat))),(12,(I ((-1)))),(13,I 0)]) (own':=[(Qgg p0),Qf7,(.own 1 (y38.map Qab)),(Qjl y39)]) [(1,(.dat 1 (p1.map Qab))),(2,.ref 0 4 0 0),(5,.ref 1 3 0 0),(6,I y1),(7,I y37),(9,(.own 2 1 (0) ((p1.length:Int).toNat))),(11,(.own 3 1 (0) ((p1.length:Int).toNat))),(12,(I ((-1)))),(13,I 0)] [0,1,2,3] [(Qgg p0),Qf7,(.own 1 (y38.map Qab)),(Qjl y39)] hq (pc (rnd Qah) (prr (prr (pw (pw (pc (.rn (Qav rfl)) (pc (.rn (Qav rfl)) (pw (pw pn))))))))) (qb (lcc (lcc ln)) (qb (lcc (lc rwl ln)) (qc (spr Qah) (qc (spr Qif) qn))))) ?_
       refine Qbl (τ:=Int×Int) (fun n t=>Qc0 N p0 p1 y1 y39 k46 n t.1 t.2=some r) (fun ⟨y56,y57⟩=>⟨mk 172 [(1,(.dat 1 (p1.map Qab))),(2,.ref 0 4 0 0),(5,.ref 1 3 0 0),(6,I y1),(7,I y37),(9,(.own 2 1 (0) ((p1.length:Int).toNat))),(11,(.own 3 1 (0) ((p1.length:Int).toNat))),(12,I y56),(13,I y57)],[(Qgg p0),Qf7,(.own 1 (y38.map Qab)),(Qjl y39)]⟩) (fun t h=>by rw[Qc0] at h;cases h) (fun n60 ih t h=>?_) N ((-1),0) h
       obtain⟨y56,y57⟩:=t
       rw[Qc0] at h
       skip
       refine wsq<|wx tbk [(2,rp _ _)] ⟨alq 1 Qab p1 underlying27,tv⟩ ?_
       refine bfe h (fun hc61 h=>?_) fun hc61 h=>?_
       ·refine wft hc61<|Qal<|thn<|wsq<|Qam ?_
        obtain⟨hi62,h⟩:=cko h
        obtain⟨hi62a,hi62b⟩:=Qcu hi62
        obtain⟨x63,hg64,h⟩:=bno h
        refine hpre (A:=(Qy1 p1 y57 y39 x63)) ⟨aio rfl underlying185 ti4 (odt hi62a) (odt hi62b) (Nat.zero_add _),ald rfl ti4 (by decide) (mgt Qj7 hg64) (nle rfl) rfl,tv⟩ fun q1_=>?_
        refine bfe h (fun hb65 h=>?_) fun hb65 h=>?_
        ·refine bfe h (fun hb66 h=>?_) fun hb66 h=>?_
         ·exact wxd tbk (hcat (Qy1 p1 y57 y39 x63) [(5,rp [(.tmp 75,(B ((!x63))))] (B true)),(8,rp [(.tmp 76,B true),(.tmp 78,(B ((decide (y56<0)))))] (B true))]) (hap q1_ ⟨asb hb65 (amv rfl),asb hb66 (ag_ (amv rfl)),tv⟩)<|wtr<|wxz1<|bln<|thn<|wxz1<|thn<|arm (mto (n:=172) [(1,(.dat 1 (p1.map Qab))),(2,.ref 0 4 0 0),(5,.ref 1 3 0 0),(6,I y1),(7,I y37),(9,(.own 2 1 (0) ((p1.length:Int).toNat))),(11,(.own 3 1 (0) ((p1.length:Int).toNat))),(12,I y57),(13,(I (w64 (y57+1))))] [0,1,2,3] [(Qgg p0),Qf7,(.own 1 (y38.map Qab)),(Qjl y39)] hq (pc (rnd Qah) (prr (prr (pw (pw (pc (.rn (Qav rfl)) (pc (.rn (Qav rfl)) (pw (pw pn))))))))) (qb (lcc (lcc ln)) (qb (lcc (lc rwl ln)) (qc (spr Qah) (qc (spr Qif) qn))))) (ih (y57,w64 (y57+1)) h)
         ·obtain⟨x67,hg68,h⟩:=bno h
          obtain⟨hi69,hj70⟩:=gsm hg68
          obtain⟨hz71,h⟩:=cko h
          obtain⟨x72,hg73,h⟩:=bno h
          obtain⟨hi74,hj75⟩:=gsm hg73
          obtain⟨hz76,h⟩:=cko h
          refine wxd tbk (hcat (Qy1 p1 y57 y39 x63) [(5,rp [(.tmp 75,(B ((!x63))))] (B true)),(8,rp [(.tmp 76,B true),(.tmp 78,(B ((decide (y56<0)))))] (B false)),(13,rp [(.tmp 79,B false),(.tmp 82,(.dat 1 (p1.map Qab))),(.tmp 83,I y57)] (.dptr (Qab x67) 0)),(17,rp [(.tmp 79,B false),(.tmp 86,(I (w64 (p0.Mass*x67)))),(.tmp 87,I y1)] (I ((w64 (p0.Mass*x67)).tmod y1))),(22,rp [(.tmp 79,B false),(.tmp 91,(.dat 1 (p1.map Qab))),(.tmp 92,I y56)] (.dptr (Qab x72) 0)),(26,rp [(.tmp 79,B false),(.tmp 95,(I (w64 (p0.Mass*x72)))),(.tmp 96,I y1)] (I ((w64 (p0.Mass*x72)).tmod y1)))]) (hap q1_ ⟨asb hb65 (amv rfl),asb hb66 (ag_ (amv rfl)),ag_ (aiq underlying27 ti3 Qab hi69 hj70),ag_ (Qsf rfl (Qkl hz71)),ag_ (aiq underlying27 ti3 Qab hi74 hj75),ag_ (Qsf rfl (Qkl hz76)),tv⟩) ?_
          refine bfe h (fun hc77 h=>?_) fun hc77 h=>?_
          ·exact wft hc77<|wxz1<|bln<|thn<|wxz1<|thn<|arm (mto (n:=172) [(1,(.dat 1 (p1.map Qab))),(2,.ref 0 4 0 0),(5,.ref 1 3 0 0),(6,I y1),(7,I y37),(9,(.own 2 1 (0) ((p1.length:Int).toNat))),(11,(.own 3 1 (0) ((p1.length:Int).toNat))),(12,I y57),(13,(I (w64 (y57+1))))] [0,1,2,3] [(Qgg p0),Qf7,(.own 1 (y38.map Qab)),(Qjl y39)] hq (pc (rnd Qah) (prr (prr (pw (pw (pc (.rn (Qav rfl)) (pc (.rn (Qav rfl)) (pw (pw pn))))))))) (qb (lcc (lcc ln)) (qb (lcc (lc rwl ln)) (qc (spr Qah) (qc (spr Qif) qn))))) (ih (y57,w64 (y57+1)) h)
          ·exact wfn hc77<|Qal<|bln<|thn<|wxz1<|thn<|arm (mto (n:=172) [(1,(.dat 1 (p1.map Qab))),(2,.ref 0 4 0 0),(5,.ref 1 3 0 0),(6,I y1),(7,I y37),(9,(.own 2 1 (0) ((p1.length:Int).toNat))),(11,(.own 3 1 (0) ((p1.length:Int).toNat))),(12,I y56),(13,(I (w64 (y57+1))))] [0,1,2,3] [(Qgg p0),Qf7,(.own 1 (y38.map Qab)),(Qjl y39)] hq (pc (rnd Qah) (prr (prr (pw (pw (pc (.rn (Qav rfl)) (pc (.rn (Qav rfl)) (pw (pw pn))))))))) (qb (lcc (lcc ln)) (qb (lcc (lc rwl ln)) (qc (spr Qah) (qc (spr Qif) qn))))) (ih (y56,w64 (y57+1)) h)
        ·exact wxd tbk (hcat (Qy1 p1 y57 y39 x63) [(5,rp [(.tmp 75,(B ((!x63))))] (B false))]) (hap q1_ ⟨asb hb65 (amv rfl),tv⟩)<|wfa<|Qal<|bln<|thn<|wxz1<|thn<|arm (mto (n:=172) [(1,(.dat 1 (p1.map Qab))),(2,.ref 0 4 0 0),(5,.ref 1 3 0 0),(6,I y1),(7,I y37),(9,(.own 2 1 (0) ((p1.length:Int).toNat))),(11,(.own 3 1 (0) ((p1.length:Int).toNat))),(12,I y56),(13,(I (w64 (y57+1))))] [0,1,2,3] [(Qgg p0),Qf7,(.own 1 (y38.map Qab)),(Qjl y39)] hq (pc (rnd Qah) (prr (prr (pw (pw (pc (.rn (Qav rfl)) (pc (.rn (Qav rfl)) (pw (pw pn))))))))) (qb (lcc (lcc ln)) (qb (lcc (lc rwl ln)) (qc (spr Qah) (qc (spr Qif) qn))))) (ih (y56,w64 (y57+1)) h)
       ·exact wfn hc61<|Qa6<|Qau<|Qau<|Qa5 rfl<|thn<|⟨(y56),h,(mto (n:=172) [(1,(.dat 1 (p1.map Qab))),(2,.ref 0 4 0 0),(5,.ref 1 3 0 0),(6,I y1),(7,I y37),(9,(.own 2 1 (0) ((p1.length:Int).toNat))),(11,(.own 3 1 (0) ((p1.length:Int).toNat))),(12,I y56)] [0,1,2,3] [(Qgg p0),Qf7,(.own 1 (y38.map Qab)),(Qjl y39)] hq (pc (rnd Qah) (prr (prr (pw (pw (pc (.rn (Qav rfl)) (pc (.rn (Qav rfl)) (pw pn)))))))) (qb (lcc (lcc ln)) (qb (lcc (lc rwl ln)) (qc (spr Qah) (qc (spr Qif) qn)))))⟩
     ·exact wfn hc44<|Qa6<|Qau<|Qau<|Qa5 rfl<|thn<|⟨(y38),h,(mto (n:=172) [(1,(.dat 1 (p1.map Qab))),(2,.ref 0 4 0 0),(5,.ref 1 3 0 0),(9,(.own 2 1 (0) ((p1.length:Int).toNat)))] [0,1,2] [(Qgg p0),Qf7,(.own 1 (y38.map Qab))] hq (pc (rnd Qah) (prr (prr (pc (.rn (Qav rfl)) pn)))) (qb (lcc (lcc ln)) (qb (lcc (lc rwl ln)) (qc (spr Qah) qn))))⟩
   ·skip
    refine wxz<|Qam ?_
    refine wmr (mto (n:=172) (l':=[(1,(.dat 1 (p1.map Qab))),(2,.ref 0 4 0 0),(5,.ref 1 3 0 0),(6,I y1),(7,I p0.Mass),(9,(.own 2 1 (0) ((p1.length:Int).toNat))),(10,I 0)]) (own':=[(Qgg p0),Qf7,(.own 1 (((List.replicate (p1.length:Int).toNat 0):List Int).map Qab))]) [(1,(.dat 1 (p1.map Qab))),(2,.ref 0 4 0 0),(5,.ref 1 3 0 0),(6,I y1),(7,I p0.Mass),(9,(.own 2 1 (0) ((p1.length:Int).toNat))),(10,I 0)] [0,1,2] [(Qgg p0),Qf7,(Zkv p1)] hq (pc (rnd Qah) (prr (prr (pw (pw (pc (.rn (Qav rfl)) (pw pn))))))) (qb (lcc (lcc ln)) (qb (lcc (lc rwl ln)) (qc (spr Qah) qn)))) ?_
    refine Qbl (τ:=Int×Int×(List Int)) (fun n t=>Qev N p0 p1 y1 k6 n t.1 t.2.1 t.2.2=some r) (fun ⟨y78,y79,y80⟩=>⟨mk 172 [(1,(.dat 1 (p1.map Qab))),(2,.ref 0 4 0 0),(5,.ref 1 3 0 0),(6,I y1),(7,I y78),(9,(.own 2 1 (0) ((p1.length:Int).toNat))),(10,I y79)],[(Qgg p0),Qf7,(.own 1 (y80.map Qab))]⟩) (fun t h=>by rw[Qev] at h;cases h) (fun n84 ih t h=>?_) N (p0.Mass,0,List.replicate (p1.length:Int).toNat 0) h
    obtain⟨y78,y79,y80⟩:=t
    rw[Qev] at h
    skip
    refine wsq<|wx tbk [(2,rp _ _)] ⟨alq 1 Qab p1 underlying27,tv⟩ ?_
    refine bfe h (fun hc85 h=>?_) fun hc85 h=>?_
    ·refine wft hc85<|Qal<|thn<|wsq<|Qam ?_
     obtain⟨x86,hg87,h⟩:=bno h
     obtain⟨hi88,hj89⟩:=gsm hg87
     obtain⟨hz90,h⟩:=cko h
     obtain⟨hi91,h⟩:=cko h
     obtain⟨hi91a,hi91b⟩:=Qcu hi91
     obtain⟨x92,hg93,h⟩:=bno h
     refine wxd tbk [(6,rp _ _),(10,rp [(.tmp 50,(I (w64 (p0.Mass*x86)))),(.tmp 51,I y1)] (I (w64 ((w64 (p0.Mass*x86)).tdiv y1)))),(11,rb [(.tmp 42,(.own 2 1 (0) ((p1.length:Int).toNat))),(.tmp 43,I y79)] [(2,(.own 1 (y80.map Qab)))] (.ref 2 1 y79.toNat 0)),(12,⟨[(.tmp 53,(.ref 2 1 y79.toNat 0)),(.tmp 52,(I (w64 ((w64 (p0.Mass*x86)).tdiv y1))))],[(2,(.own 1 (y80.map Qab)))],.any,[(2,(Qy2 y80 y79 p0 x86 y1))],false⟩)] ⟨aiq underlying27 ti3 Qab hi88 hj89,Qj9 rfl (Qkl hz90),aio rfl underlying27 ti3 (odt hi91a) (odt hi91b) (Nat.zero_add _),ast rfl ti3 (by rfl) (mgt Qab hg93) (nle rfl) (Qfe Qab rfl),tv⟩ ?_
     obtain⟨hi94,h⟩:=cko h
     obtain⟨hi94a,hi94b⟩:=Qcu hi94
     obtain⟨x95,hg96,h⟩:=bno h
     refine wx1 tbk [(3,rb [(.tmp 55,(.own 2 1 (0) ((p1.length:Int).toNat))),(.tmp 56,I y79)] [(2,(Qy2 y80 y79 p0 x86 y1))] (.ref 2 1 y79.toNat 0)),(4,rb [(.tmp 57,(.ref 2 1 y79.toNat 0))] [(2,(Qy2 y80 y79 p0 x86 y1))] (I x95))] ⟨aio rfl underlying27 ti3 (odt hi94a) (odt hi94b) (Nat.zero_add _),ald rfl ti3 (by decide) (mgt Qab hg96) (nle rfl) rfl,tv⟩<|bln<|thn<|wxz1<|thn ?_
     exact arm (mto (n:=172) [(1,(.dat 1 (p1.map Qab))),(2,.ref 0 4 0 0),(5,.ref 1 3 0 0),(6,I y1),(7,(I (w64 (y78-x95)))),(9,(.own 2 1 (0) ((p1.length:Int).toNat))),(10,(I (w64 (y79+1))))] [0,1,2] [(Qgg p0),Qf7,(Qy2 y80 y79 p0 x86 y1)] hq (pc (rnd Qah) (prr (prr (pw (pw (pc (.rn (Qav rfl)) (pw pn))))))) (qb (lcc (lcc ln)) (qb (lcc (lc rwl ln)) (qc (spr Qah) qn)))) (ih (w64 (y78-x95),w64 (y79+1),y80.set y79.toNat (w64 ((w64 (p0.Mass*x86)).tdiv y1))) h)
    ·exact wfn hc85<|Qa6<|Qau<|Qau<|Qa5 rfl<|thn<|⟨(y78,y80),h,(mto (n:=172) [(1,(.dat 1 (p1.map Qab))),(2,.ref 0 4 0 0),(5,.ref 1 3 0 0),(6,I y1),(7,I y78),(9,(.own 2 1 (0) ((p1.length:Int).toNat)))] [0,1,2] [(Qgg p0),Qf7,(.own 1 (y80.map Qab))] hq (pc (rnd Qah) (prr (prr (pw (pw (pc (.rn (Qav rfl)) pn)))))) (qb (lcc (lcc ln)) (qb (lcc (lc rwl ln)) (qc (spr Qah) qn))))⟩
  ·skip
   refine wxz<|Qam ?_
   refine wmr (mto (n:=172) (l':=[(1,(.dat 1 (p1.map Qab))),(2,.ref 0 4 0 0),(5,.ref 1 3 0 0),(6,I 0),(7,I p0.Mass),(8,I 0)]) (own':=[(Qgg p0),Qf7]) [(1,(.dat 1 (p1.map Qab))),(2,.ref 0 4 0 0),(5,.ref 1 3 0 0),(6,I 0),(7,I p0.Mass),(8,I 0)] [0,1] [(Qgg p0),Qf7] hq (pc (rnd Qah) (prr (prr (pw (pw (pw pn)))))) (qb (lcc (lcc ln)) (qb (lcc (lc rwl ln)) qn))) ?_
   refine Qbl (τ:=Int×Int) (fun n t=>Qeu N p1 k2 n t.1 t.2=some r) (fun ⟨y97,y98⟩=>⟨mk 172 [(1,(.dat 1 (p1.map Qab))),(2,.ref 0 4 0 0),(5,.ref 1 3 0 0),(6,I y97),(7,I p0.Mass),(8,I y98)],[(Qgg p0),Qf7]⟩) (fun t h=>by rw[Qeu] at h;cases h) (fun n101 ih t h=>?_) N (0,0) h
   obtain⟨y97,y98⟩:=t
   rw[Qeu] at h
   skip
   refine wsq<|wx tbk [(2,rp _ _)] ⟨alq 1 Qab p1 underlying27,tv⟩ ?_
   refine bfe h (fun hc102 h=>?_) fun hc102 h=>?_
   ·refine wft hc102<|Qal<|thn<|wsq<|Qam ?_
    obtain⟨x103,hg104,h⟩:=bno h
    obtain⟨hi105,hj106⟩:=gsm hg104
    exact wx1 tbk [(3,rp _ _)] ⟨aiq underlying27 ti3 Qab hi105 hj106,tv⟩<|bln<|thn<|wxz1<|thn<|arm (mto (n:=172) [(1,(.dat 1 (p1.map Qab))),(2,.ref 0 4 0 0),(5,.ref 1 3 0 0),(6,(I (w64 (y97+x103)))),(7,I p0.Mass),(8,(I (w64 (y98+1))))] [0,1] [(Qgg p0),Qf7] hq (pc (rnd Qah) (prr (prr (pw (pw (pw pn)))))) (qb (lcc (lcc ln)) (qb (lcc (lc rwl ln)) qn))) (ih (w64 (y97+x103),w64 (y98+1)) h)
   ·exact wfn hc102<|Qa6<|Qau<|Qau<|Qa5 rfl<|thn<|⟨(y97),h,(mto (n:=172) [(1,(.dat 1 (p1.map Qab))),(2,.ref 0 4 0 0),(5,.ref 1 3 0 0),(6,I y97),(7,I p0.Mass)] [0,1] [(Qgg p0),Qf7] hq (pc (rnd Qah) (prr (prr (pw (pw pn))))) (qb (lcc (lcc ln)) (qb (lcc (lc rwl ln)) qn)))⟩
def Qdt (N:Nat) (p0:List Qaa) (k1:Unit→Option Bool):Nat→Int→Option Bool
  |0,_=>none
  |n4+1,y2=>
    bif (decide (y2<(p0.length:Int))) then
     (getI p0 y2).bind fun x6=>
     (Qg5 N x6).bind fun x11=>
     bif (!x11) then
      some false
     else
      Qdt N p0 k1 n4 (w64 (y2+1))
    else
     k1 ()
def Qiz (N:Nat) (p0:List Qaa):Option Bool:=
  Qbc (fun _=>
    some true) fun k1:Unit→Option Bool=>
  Qdt N p0 k1 N 0
def Q53 (p0:List Qaa):AV:=.dat 4 (p0.map Qad)
theorem Qsw (N:Nat) (p0:List Qaa) (r:Bool) (h:Qiz N p0=some r):Spec prog 98 [(.dat 4 (p0.map Qad))] [] (B r) []:=by
  refine sA func98 0 fun _ _ _ hq hd0=>?_
  unfold Qiz at h
  refine wxz ?_
  obtain⟨k1,hk_k1,h⟩:=jko h
  refine wjn (τ:=Unit) (fun t=>k1 t=some r) (fun _=>⟨mk 16 [],[]⟩) (fun t h=>?_) ?_
  ·subst hk_k1
   exact wxz<|Qai<|frb h
  ·skip
   refine wxz<|Qam ?_
   refine wmr (mto (n:=16) (l':=[(0,(Q53 p0)),(3,I 0)]) (own':=[]) [(0,(Q53 p0)),(3,I 0)] [] [] hq (pc (rnd Qan) (pw pn)) qn) ?_
   refine Qbl (τ:=Int) (fun n t=>Qdt N p0 k1 n t=some r) (fun y2=>⟨mk 16 [(0,(Q53 p0)),(3,I y2)],[]⟩) (fun t h=>by rw[Qdt] at h;cases h) (fun n4 ih y2 h=>?_) N (0) h
   rw[Qdt] at h
   skip
   refine wsq<|wx tbk [(2,rp _ _)] ⟨alq 4 Qad p0 underlying28,tv⟩ ?_
   refine bfe h (fun hc5 h=>?_) fun hc5 h=>?_
   ·refine wft hc5<|Qal<|thn<|wsq<|Qam ?_
    obtain⟨x6,hg7,h⟩:=bno h
    obtain⟨hi8,hj9⟩:=gsm hg7
    obtain⟨x11,hf10,h⟩:=bno h
    refine wx tbk [(2,rp _ _),(4,rp _ _)] ⟨aiq underlying28 ti89 Qad hi8 hj9,apw Zik (Qo4 N x6 _ hf10),tv⟩ ?_
    refine bfe h (fun hc12 h=>?_) fun hc12 h=>?_
    ·exact wft hc12<|wxz<|Qai<|Qar<|Qaj<|Qaj<|Qar<|Qaj<|frb h
    ·exact wfn hc12<|Qal<|bln<|thn<|wxz1<|thn<|arm (mto (n:=16) [(0,(Q53 p0)),(3,(I (w64 (y2+1))))] [] [] hq (pc (rnd Qan) (pw pn)) qn) (ih (w64 (y2+1)) h)
   ·exact wfn hc5<|Qa6<|Qau<|Qau<|Qa5 rfl<|thn<|⟨(),h,(mto (n:=16) [] [] [] hq pn qn)⟩
def Qcz (N:Nat) (p0:GNet) (p1:Int) (k2:Int→Option Int):Nat→Int→Int→Option Int
  |0,_,_=>none
  |n7+1,y3,y4=>
    bif (decide (y4<(p0.Elements.length:Int))) then
     (getI p0.Elements y4).bind fun x9=>
     bif (x9.Kind==p1) then
      Qcz N p0 p1 k2 n7 (w64 (y3+1)) (w64 (y4+1))
     else
      Qcz N p0 p1 k2 n7 y3 (w64 (y4+1))
    else
     k2 (y3)
def Qgb (N:Nat) (p0:GNet) (p1:Int):Option Int:=
  Qbc (fun y1=>
    some y1) fun k2:Int→Option Int=>
  Qcz N p0 p1 k2 N 0 0
def Zqu (p0:GNet):AV:=.dat 7 (p0.Elements.map Qae)
def Q05 (p0:GNet):Slot:=.own 2 [[(.dat 5 (p0.Table.map Qap)),(Zqu p0)]]
theorem Qjw (N:Nat) (p0:GNet) (p1 r:Int) (h:Qgb N p0 p1=some r):Spec prog 29 [(.agg (Qgv p0)),(K .u8 p1)] [] (I r) []:=by
  refine sA func29 0 fun _ _ _ hq hd0=>?_
  unfold Qgb at h
  refine wxz<|wxz ?_
  obtain⟨k2,hk_k2,h⟩:=jko h
  refine wjn (τ:=Int) (fun t=>k2 t=some r) (fun y1=>⟨mk 25 [(5,I y1)],[]⟩) (fun y1 h=>?_) ?_
  ·subst hk_k2
   refine wxz<|Qai ?_
   obtain rfl:=osi h
   exact fend ⟨[I y1],⟨rot,tv⟩,rfl⟩ nll
  ·skip
   refine wxz<|Qam ?_
   refine wmr (mto (n:=25) (l':=[(1,(K .u8 p1)),(2,.ref 0 2 0 0),(5,I 0),(6,I 0)]) (own':=[(Q05 p0)]) [(1,(K .u8 p1)),(2,.ref 0 2 0 0),(5,I 0),(6,I 0)] [0] [(Q05 p0)] hq (pw (prr (pw (pw pn)))) (qb (lc (rnd Qao) (lc (rnd Qac) ln)) qn)) ?_
   refine Qbl (τ:=Int×Int) (fun n t=>Qcz N p0 p1 k2 n t.1 t.2=some r) (fun ⟨y3,y4⟩=>⟨mk 25 [(1,(K .u8 p1)),(2,.ref 0 2 0 0),(5,I y3),(6,I y4)],[(Q05 p0)]⟩) (fun t h=>by rw[Qcz] at h;cases h) (fun n7 ih t h=>?_) N (0,0) h
   obtain⟨y3,y4⟩:=t
   rw[Qcz] at h
   skip
   refine wsq<|wx tbk [(3,rp _ _)] ⟨alq 7 Qae p0.Elements underlying24,tv⟩ ?_
   refine bfe h (fun hc8 h=>?_) fun hc8 h=>?_
   ·refine wft hc8<|Qal<|thn<|wsq<|Qam ?_
    obtain⟨x9,hg10,h⟩:=bno h
    obtain⟨hi11,hj12⟩:=gsm hg10
    refine wx tbk [(3,rp _ _)] ⟨aiq underlying24 ti59 Qae hi11 hj12,tv⟩ ?_
    refine bfe h (fun hc13 h=>?_) fun hc13 h=>?_
    ·exact wft hc13<|wxz1<|bln<|thn<|wxz1<|thn<|arm (mto (n:=25) [(1,(K .u8 p1)),(2,.ref 0 2 0 0),(5,(I (w64 (y3+1)))),(6,(I (w64 (y4+1))))] [0] [(Q05 p0)] hq (pw (prr (pw (pw pn)))) (qb (lc (rnd Qao) (lc (rnd Qac) ln)) qn)) (ih (w64 (y3+1),w64 (y4+1)) h)
    ·exact wfn hc13<|Qal<|bln<|thn<|wxz1<|thn<|arm (mto (n:=25) [(1,(K .u8 p1)),(2,.ref 0 2 0 0),(5,I y3),(6,(I (w64 (y4+1))))] [0] [(Q05 p0)] hq (pw (prr (pw (pw pn)))) (qb (lc (rnd Qao) (lc (rnd Qac) ln)) qn)) (ih (y3,w64 (y4+1)) h)
   ·exact wfn hc8<|Qa6<|Qau<|Qau<|Qa5 rfl<|thn<|⟨(y3),h,(mto (n:=25) [(5,I y3)] [] [] hq (pw pn) qn)⟩
def Qh5 (N:Nat) (p0:GNet) (p1:List Qaa):Option Int:=
  Qbc (fun _=>
    (Qio N p1).bind fun x3=>
    bif (decide (x3.Mass>1000000)) then
     some 3
    else
     bif (decide (x3.Gas>1000000000)) then
      some 3
     else
      some 0) fun k1:Unit→Option Int=>
  (Qgb N p0 1).bind fun x7=>
  bif ((p1.length:Int) != x7) then
   some 1
  else
   (Qiz N p1).bind fun x10=>
   bif (!x10) then
    some 1
   else
    k1 ()
def Q52 (p1:List Qaa):AV:=.dat 4 (p1.map Qad)
def Zqt (p0:GNet):AV:=.dat 7 (p0.Elements.map Qae)
def Zbp (p1:List Qaa) (p0:GNet) (x7:Int):List (Nat×Rec):=[(1,rp [((.tmp 6),(Q52 p1))] (I ((p1.length:Int)))),(3,rp [fu 29,((.tmp 8),(.agg [(.dat 5 (p0.Table.map Qap)),(Zqt p0)])),((.const (.int .u8 1)),(K .u8 (1)))] (I x7))]
theorem Qqp (N:Nat) (p0:GNet) (p1:List Qaa) (r:Int) (h:Qh5 N p0 p1=some r):Spec prog 61 [(.agg (Qgv p0)),(.dat 4 (p1.map Qad))] [] (I r) []:=by
  refine sA func61 0 fun _ _ _ hq hd0=>?_
  unfold Qh5 at h
  refine wxz ?_
  obtain⟨k1,hk_k1,h⟩:=jko h
  refine wjn (τ:=Unit) (fun t=>k1 t=some r) (fun _=>⟨mk 26 [(1,(Q52 p1))],[]⟩) (fun t h=>?_) ?_
  ·subst hk_k1
   obtain⟨x3,hf2,h⟩:=bno h
   refine wx tbk [(1,rp _ _)] ⟨apw Q4j (Qnu N p1 _ hf2),tv⟩<|wsq ?_
   refine bfe h (fun hb4 h=>?_) fun hb4 h=>?_
   ·refine wx tbk [(3,rp [(.tmp 20,(B ((decide (x3.Mass>1000000)))))] (B true))] ⟨asb hb4 (amv rfl),tv⟩<|wtr<|wxz<|Qai<|Qaj ?_
    obtain rfl:=osi h
    exact fend ⟨[I 3],⟨rot,tv⟩,rfl⟩ nll
   ·refine wx tbk [(3,rp [(.tmp 20,(B ((decide (x3.Mass>1000000)))))] (B false))] ⟨asb hb4 (amv rfl),tv⟩ ?_
    refine bfe h (fun hc5 h=>?_) fun hc5 h=>?_
    ·refine wft hc5<|wxz<|Qai<|Qaj ?_
     obtain rfl:=osi h
     exact fend ⟨[I 3],⟨rot,tv⟩,rfl⟩ nll
    ·refine wfn hc5<|Qal<|thn<|wxz<|Qai ?_
     obtain rfl:=osi h
     exact fend ⟨[I 0],⟨rot,tv⟩,rfl⟩ nll
  ·skip
   obtain⟨x7,hf6,h⟩:=bno h
   refine hpre (A:=(Zbp p1 p0 x7)) ⟨alq 4 Qad p1 underlying28,apw Qz6 (Qjw N p0 1 _ hf6),tv⟩ fun q1_=>?_
   refine bfe h (fun hb8 h=>?_) fun hb8 h=>?_
   ·refine wx tbk (hcat (Zbp p1 p0 x7) [(5,rp [(.tmp 10,(B (((p1.length:Int) != x7))))] (B true))]) (hap q1_ ⟨asb hb8 (amv rfl),tv⟩)<|wtr<|wxz<|Qai<|Qaj ?_
    obtain rfl:=osi h
    exact fend ⟨[I 1],⟨rot,tv⟩,rfl⟩ nll
   ·obtain⟨x10,hf9,h⟩:=bno h
    refine wx tbk (hcat (Zbp p1 p0 x7) [(5,rp [(.tmp 10,(B (((p1.length:Int) != x7))))] (B false)),(7,rp [(.tmp 11,B false),fu 98,(.tmp 12,(Q52 p1))] (B x10))]) (hap q1_ ⟨asb hb8 (amv rfl),ag_ (apw Znm (Qsw N p1 _ hf9)),tv⟩) ?_
    refine bfe h (fun hc11 h=>?_) fun hc11 h=>?_
    ·refine wft hc11<|wxz<|Qai<|Qaj ?_
     obtain rfl:=osi h
     exact fend ⟨[I 1],⟨rot,tv⟩,rfl⟩ nll
    ·exact wfn hc11<|Qal<|thn<|⟨(),h,(mto (n:=26) [(1,(Q52 p1))] [] [] hq (pc (rnd Qan) pn) qn)⟩
def Qgl (N:Nat) (x26:Qaf) (k40:(List Qaa)×(List (List Qaa))×(List Qa1)×(List Int)→Option (Qe4×Int×Int)):Nat→(List Qaa)→Int→(List (List Qaa))→(List Qa1)→(List Int)→Option (Qe4×Int×Int)
  |0,_,_,_,_,_=>none
  |n129+1,y119,y120,y121,y122,y123=>
    bif (decide (y120<(x26.From.length:Int))) then
     chk (decide ((([]:List Qaa).length+y119.length)*32≤140737488355328))<|
     (getI x26.From y120).bind fun x132=>
     (getI y121 x132.Element).bind fun x136=>
     (getI x136 x132.Outlet).bind fun x140=>
     chk (decide (1≤([x140]).length))<|
     chk (decide (((([]:List Qaa)++y119).length+(([x140]).take 1).length)*32≤140737488355328))<|
     Qgl N x26 k40 n129 ((([]:List Qaa)++y119)++(([x140]).take 1)) (w64 (y120+1)) y121 y122 y123
    else
     k40 (y119,y121,y122,y123)
def Qgm (N:Nat) (p0:GNet) (p1:List Int) (p2:List Qaa) (k5:Int×(List (List Qaa))×(List Qa1)×(List Int)→Option (Qe4×Int×Int)):Nat→Int→Int→Int→(List (List Qaa))→(List Qa1)→(List Int)→Option (Qe4×Int×Int)
  |0,_,_,_,_,_,_=>none
  |n18+1,y6,y7,y8,y9,y10,y11=>
    bif (decide (y8<(p0.Elements.length:Int))) then
     Qbc (fun ⟨y20,y21,y22,y23,y24⟩=>
       Qgm N p0 p1 p2 k5 n18 y20 y21 (w64 (y8+1)) y22 y23 y24) fun k25:Int×Int×(List (List Qaa))×(List Qa1)×(List Int)→Option (Qe4×Int×Int)=>
     (getI p0.Elements y8).bind fun x26=>
     Qbc (fun ⟨y30,y31,y32,y33,y34⟩=>
       Qbc (fun ⟨y36,y37,y38,y39⟩=>
         (Qio N y36).bind fun x42=>
         (getI p1 y8).bind fun x43=>
         (Qk5 N x26 x43).bind fun x48=>
         bif (decide (x42.Mass>x48)) then
          some ((⟨[],[],[]⟩:Qe4),0,y8)
         else
          Qbc (fun ⟨y50,y51,y52,y53,y54⟩=>
            Qbc (fun ⟨y56,y57,y58,y59,y60,y61,y62,y63,y64⟩=>
              Qbc (fun ⟨y66,y67,y68,y69,y70,y71,y72,y73⟩=>
                chk (decide ((y67.length+([y66]).length)*24≤140737488355328))<|
                chk (decide (1≤([(⟨y70,y71,y72,y73⟩:Qa1)]).length))<|
                chk (decide ((y68.length+(([(⟨y70,y71,y72,y73⟩:Qa1)]).take 1).length)*32≤140737488355328))<|
                chk (decide ((y69.length+([w64 (x43+y73)]).length)*8≤140737488355328))<|
                k25 (y56,y30,y67++([y66]),y68++(([(⟨y70,y71,y72,y73⟩:Qa1)]).take 1),y69++([w64 (x43+y73)]))) fun k74:(List Qaa)×(List (List Qaa))×(List Qa1)×(List Int)×Int×Int×Int×Int→Option (Qe4×Int×Int)=>
              bif (x26.Kind==5) then
               (Qib N x42 x26.Weights).bind fun x81=>
               k74 (x81.1,y58,y59,y60,x81.2.Heat,x81.2.Silica,x81.2.Gas,0)
              else
               k74 (y57,y58,y59,y60,y61,y62,y63,y64)) fun k65:Int×(List Qaa)×(List (List Qaa))×(List Qa1)×(List Int)×Int×Int×Int×Int→Option (Qe4×Int×Int)=>
            bif (x26.Kind==4) then
             (getI p0.Table x26.Level).bind fun x83=>
             (Qjf N x83 x42).bind fun x88=>
             Qbc (fun ⟨y89,y90,y91,y92,y93,y94,y95⟩=>
               (some (w64 (y6+x88.Steam.Mass))).bind fun x97=>
               k65 (x97,y89,y90,y91,y92,y93,y94,y95,x88.Scale)) fun k96:(List Qaa)×(List (List Qaa))×(List Qa1)×(List Int)×Int×Int×Int→Option (Qe4×Int×Int)=>
             bif (decide (x26.Amount>0)) then
              (Qib N (⟨x88.Water.Mass,x88.Water.Heat,x88.Water.Silica,x88.Water.Gas⟩:Qaa) ([w64 (1000-x26.Amount),x26.Amount])).bind fun x101=>
              (getI x101.1 1).bind fun x102=>
              (Qio N ([(⟨x88.Steam.Mass,x88.Steam.Heat,x88.Steam.Silica,x88.Steam.Gas⟩:Qaa),x102])).bind fun x107=>
              (getI x101.1 0).bind fun x108=>
              k96 ([x107,x108],y50,y51,y52,x101.2.Heat,x101.2.Silica,x101.2.Gas)
             else
              k96 ([(⟨x88.Steam.Mass,x88.Steam.Heat,x88.Steam.Silica,x88.Steam.Gas⟩:Qaa),(⟨x88.Water.Mass,x88.Water.Heat,x88.Water.Silica,x88.Water.Gas⟩:Qaa)],y50,y51,y52,y54,0,0)
            else
             chk (decide (1≤y53.length))<|
             k65 (y6,y53.take 1,y50,y51,y52,y54,0,0,0)) fun k55:(List (List Qaa))×(List Qa1)×(List Int)×(List Qaa)×Int→Option (Qe4×Int×Int)=>
          bif (x26.Kind==3) then
           (some (w64 (x42.Heat-(if x42.Heat<x26.Amount then x42.Heat else x26.Amount)))).bind fun x114=>
           chk (decide (0≤0)&&decide ((0:Int).toNat<1))<|
           (([x42])[(0:Int).toNat]?).bind fun x117=>
           k55 (y37,y38,y39,([x42]).set ((0:Int).toNat) (⟨x117.Mass,x114,x117.Silica,x117.Gas⟩:Qaa),(if x42.Heat<x26.Amount then x42.Heat else x26.Amount))
          else
           k55 (y37,y38,y39,[x42],0)) fun k40:(List Qaa)×(List (List Qaa))×(List Qa1)×(List Int)→Option (Qe4×Int×Int)=>
       Qgl N x26 k40 N y31 0 y32 y33 y34) fun k35:Int×(List Qaa)×(List (List Qaa))×(List Qa1)×(List Int)→Option (Qe4×Int×Int)=>
     bif (x26.Kind==1) then
      chk (decide (0≤y7)&&decide (y7≤w64 (y7+1))&&decide (w64 (y7+1)≤(p2.length:Int)))<|
      k35 (w64 (y7+1),(p2.drop y7.toNat).take ((w64 (y7+1)).toNat-y7.toNat),y9,y10,y11)
     else
      k35 (y7,[],y9,y10,y11)
    else
     k5 (y6,y9,y10,y11)
def Ql7 (N:Nat) (p0:GNet) (p1:List Int) (p2:List Qaa):Option (Qe4×Int×Int):=
  Qbc (fun ⟨y1,y2,y3,y4⟩=>
    some ((⟨y2,y3,y4⟩:Qe4),y1,(-1))) fun k5:Int×(List (List Qaa))×(List Qa1)×(List Int)→Option (Qe4×Int×Int)=>
  Qgm N p0 p1 p2 k5 N 0 0 0 ([]) ([]) ([])
def Qgu:Slot:=.own 3 [[nilS,nilS,nilS]]
def Qy0:AV:=.acc 3 28 1 (([]:List (List Qaa)).map Qag)
def Q50:AV:=.acc 4 90 4 (([]:List Qa1).map Qat)
def Qej (p2:List Qaa):AV:=.dat 4 (p2.map Qad)
def Zqq (p0:GNet):AV:=.dat 7 (p0.Elements.map Qae)
def Qhf (p0:GNet):Slot:=.own 2 [[(.dat 5 (p0.Table.map Qap)),(Zqq p0)]]
def Qrg (y9:List (List Qaa)) (y10:List Qa1) (y11:List Int):Slot:=.own 3 [[(.acc 3 28 1 (y9.map Qag)),(.acc 4 90 4 (y10.map Qat)),(.acc 5 3 1 (y11.map Qab))]]
def Zbo (x26:Qaf):AV:=.dat 2 (x26.From.map Qaw)
def Qek (x26:Qaf):Slot:=.own 7 [[(K .u8 x26.Kind),(Zbo x26),(I x26.Level),(I x26.Amount),(I x26.Wide),(I x26.Narrow),(.dat 1 (x26.Weights.map Qab))]]
def Zbl (x42:Qaa):AV:=.agg [(I x42.Mass),(I x42.Heat),(I x42.Silica),(I x42.Gas)]
def Qrf (x42:Qaa):Slot:=.own 4 (([x42]:List Qaa).map Qad)
def Qot (y50:List (List Qaa)) (y51:List Qa1) (y52:List Int):Slot:=.own 3 [[(.acc 7 28 1 (y50.map Qag)),(.acc 8 90 4 (y51.map Qat)),(.acc 9 3 1 (y52.map Qab))]]
def Qiv (x42:Qaa):Slot:=.own 4 [[(I x42.Mass),(I x42.Heat),(I x42.Silica),(I x42.Gas)]]
def Qre (y54:Int):Slot:=.own 4 [[(I y54),(I (0)),(I (0)),(I (0))]]
def Q03 (y67:List (List Qaa)) (y66:List Qaa):AV:=.acc 7 28 1 ((y67++([y66]):List (List Qaa)).map Qag)
def Q02 (y68:List Qa1) (y70 y71:Int) (y72 y73:Int):AV:=.acc 9 90 4 ((y68++(([(⟨y70,y71,y72,y73⟩:Qa1)]).take 1):List Qa1).map Qat)
def Qrd (x88:Qe2):AV:=.agg [(I x88.Steam.Mass),(I x88.Steam.Heat),(I x88.Steam.Silica),(I x88.Steam.Gas)]
def Q01 (x88:Qe2):AV:=.agg [(I x88.Water.Mass),(I x88.Water.Heat),(I x88.Water.Silica),(I x88.Water.Gas)]
def Q00 (x88:Qe2):AV:=.dat 4 (([(⟨x88.Steam.Mass,x88.Steam.Heat,x88.Steam.Silica,x88.Steam.Gas⟩:Qaa),(⟨x88.Water.Mass,x88.Water.Heat,x88.Water.Silica,x88.Water.Gas⟩:Qaa)]:List Qaa).map Qad)
def Qu9 (x88:Qe2):Slot:=.own 10 [[(I x88.Steam.Mass),(I x88.Steam.Heat),(I x88.Steam.Silica),(I x88.Steam.Gas),(I x88.Water.Mass),(I x88.Water.Heat),(I x88.Water.Silica),(I x88.Water.Gas),(I x88.Rest),(I x88.Scale)]]
def Zbn (x26:Qaf):AV:=.dat 1 (([w64 (1000-x26.Amount),x26.Amount]:List Int).map Qab)
def Q5z (x102:Qaa):AV:=.agg [(I x102.Mass),(I x102.Heat),(I x102.Silica),(I x102.Gas)]
def Zbm (x88:Qe2) (x102:Qaa):AV:=.dat 4 (([(⟨x88.Steam.Mass,x88.Steam.Heat,x88.Steam.Silica,x88.Steam.Gas⟩:Qaa),x102]:List Qaa).map Qad)
def Q0z (x107:Qaa):AV:=.agg [(I x107.Mass),(I x107.Heat),(I x107.Silica),(I x107.Gas)]
def Q0y (x108:Qaa):AV:=.agg [(I x108.Mass),(I x108.Heat),(I x108.Silica),(I x108.Gas)]
def Q0x (x42 x117:Qaa) (x114:Int):Slot:=.own 4 ((([x42]).set ((0:Int).toNat) (⟨x117.Mass,x114,x117.Silica,x117.Gas⟩:Qaa):List Qaa).map Qad)
def Q51:AV:=.acc 7 89 4 ((([]:List Qaa):List Qaa).map Qad)
def Qu8 (y119:List Qaa):AV:=.acc 8 89 4 ((([]:List Qaa)++y119:List Qaa).map Qad)
def Q0w (x140:Qaa):AV:=.agg [(I x140.Mass),(I x140.Heat),(I x140.Silica),(I x140.Gas)]
def Q04 (p2:List Qaa) (y7:Int):AV:=.dat 4 (((p2.drop y7.toNat).take ((w64 (y7+1)).toNat-y7.toNat):List Qaa).map Qad)
theorem Qtr (N:Nat) (p0:GNet) (p1:List Int) (p2:List Qaa) (r:(Qe4×Int×Int)) (h:Ql7 N p0 p1 p2=some r):Spec prog 22 [(.agg (Qgv p0)),(.dat 1 (p1.map Qab)),(.dat 4 (p2.map Qad))] [] (.tup [(.agg (Q0d r.1)),(I r.2.1),(I r.2.2)]) []:=by
  refine sA func22 0 fun _ _ _ hq hd0=>?_
  unfold Ql7 at h
  refine wxz<|wxz<|wxz ?_
  obtain⟨k5,hk_k5,h⟩:=jko h
  refine wjn (τ:=Int×(List (List Qaa))×(List Qa1)×(List Int)) (fun t=>k5 t=some r) (fun ⟨y1,y2,y3,y4⟩=>⟨mk 209 [(6,.ref 0 3 0 0),(9,.ref 1 3 0 0),(10,I y1)],[Qgu,(.own 3 [[(.acc 2 28 1 (y2.map Qag)),(.acc 3 90 4 (y3.map Qat)),(.acc 4 3 1 (y4.map Qab))]]),.tok,.tok,.tok]⟩) (fun t h=>?_) ?_
  ·subst hk_k5
   obtain⟨y1,y2,y3,y4⟩:=t
   refine wxz<|Qai ?_
   obtain rfl:=osi h
   exact fie [(.agg [(.dat 1 (y2.map Qag)),(.dat 4 (y3.map Qat)),(.dat 1 (y4.map Qab))]),I y1,(I ((-1)))] ⟨Qbz (v:=(.agg [(.acc 2 28 1 (y2.map Qag)),(.acc 3 90 4 (y3.map Qat)),(.acc 4 3 1 (y4.map Qab))])) (Qbv (n:=0) (m:=3) (j:=0) (i:=0) (xs:=[[(.acc 2 28 1 (y2.map Qag)),(.acc 3 90 4 (y3.map Qat)),(.acc 4 3 1 (y4.map Qab))]]) (by kernel_rfl) (by kernel_rfl) ti52 (by decide) rfl (nle rfl) rfl) (Less.agg ⟨Less.acc,Less.acc,Less.acc,tv⟩),rot,rot,tv⟩
  ·skip
   refine wxz<|Qam ?_
   refine wmr (Mor.trans (Qnz (n:=3) (ty:=28) (m:=1) (q:=2) (mq:=3) (c:=[nilS,nilS,nilS]) 0 (by kernel_rfl) (by kernel_rfl) (by kernel_rfl) (by decide)) (Mor.trans (Qnz (n:=4) (ty:=90) (m:=4) (q:=2) (mq:=3) (c:=[Qy0,nilS,nilS]) 1 (by kernel_rfl) (by kernel_rfl) (by kernel_rfl) (by decide)) (Mor.trans (Qnz (n:=5) (ty:=3) (m:=1) (q:=2) (mq:=3) (c:=[Qy0,Q50,nilS]) 2 (by kernel_rfl) (by kernel_rfl) (by kernel_rfl) (by decide)) (mto (n:=209) (l':=[(1,(.dat 1 (p1.map Qab))),(2,(Qej p2)),(3,.ref 0 2 0 0),(6,.ref 1 3 0 0),(9,.ref 2 3 0 0),(10,I 0),(11,I 0),(12,I 0)]) (own':=[(Qhf p0),Qgu,(.own 3 [[(.acc 3 28 1 ((([]):List (List Qaa)).map Qag)),(.acc 4 90 4 ((([]):List Qa1).map Qat)),(.acc 5 3 1 ((([]):List Int).map Qab))]]),.tok,.tok,.tok]) [(1,(.dat 1 (p1.map Qab))),(2,(Qej p2)),(3,.ref 0 2 0 0),(6,.ref 1 3 0 0),(9,.ref 2 3 0 0),(10,I 0),(11,I 0),(12,I 0)] [0,1,2,3,4,5] [(Qhf p0),Qgu,(.own 3 [[Qy0,Q50,(.acc 5 3 1 (([]:List Int).map Qab))]]),.tok,.tok,.tok] hq (pc (rnd Qah) (pc (rnd Qan) (prr (prr (prr (pw (pw (pw pn)))))))) (qb (lc (rnd Qao) (lc (rnd Qac) ln)) (qb (lcc (lc rwl ln)) (qb (lc (.rn (Qa2 rfl (Qay Qak _))) (lc (.rn (Qa2 rfl (Qay Qa7 _))) (lc (.rn (Qa2 rfl (Qay Qah _))) ln))) (qc .tok (qc .tok (qc .tok qn)))))))))) ?_
   refine Qbl (τ:=Int×Int×Int×(List (List Qaa))×(List Qa1)×(List Int)) (fun n t=>Qgm N p0 p1 p2 k5 n t.1 t.2.1 t.2.2.1 t.2.2.2.1 t.2.2.2.2.1 t.2.2.2.2.2=some r) (fun ⟨y6,y7,y8,y9,y10,y11⟩=>⟨mk 209 [(1,(.dat 1 (p1.map Qab))),(2,(Qej p2)),(3,.ref 0 2 0 0),(6,.ref 1 3 0 0),(9,.ref 2 3 0 0),(10,I y6),(11,I y7),(12,I y8)],[(Qhf p0),Qgu,(Qrg y9 y10 y11),.tok,.tok,.tok]⟩) (fun t h=>by rw[Qgm] at h;cases h) (fun n18 ih t h=>?_) N (0,0,0,[],[],[]) h
   obtain⟨y6,y7,y8,y9,y10,y11⟩:=t
   rw[Qgm] at h
   skip
   refine wsq<|wx tbk [(3,rp _ _)] ⟨alq 7 Qae p0.Elements underlying24,tv⟩ ?_
   refine bfe h (fun hc19 h=>?_) fun hc19 h=>?_
   ·refine wft hc19<|Qal<|thn ?_
    obtain⟨k25,hk_k25,h⟩:=jko h
    refine wjn (τ:=Int×Int×(List (List Qaa))×(List Qa1)×(List Int)) (fun t=>k25 t=some r) (fun ⟨y20,y21,y22,y23,y24⟩=>⟨mk 209 [(1,(.dat 1 (p1.map Qab))),(2,(Qej p2)),(3,.ref 0 2 0 0),(6,.ref 1 3 0 0),(9,.ref 2 3 0 0),(10,I y20),(11,I y21),(12,I y8)],[(Qhf p0),Qgu,(.own 3 [[(.acc 3 28 1 (y22.map Qag)),(.acc 4 90 4 (y23.map Qat)),(.acc 5 3 1 (y24.map Qab))]]),.tok,.tok,.tok]⟩) (fun t h=>?_) ?_
    ·subst hk_k25
     obtain⟨y20,y21,y22,y23,y24⟩:=t
     exact wxz1<|thn<|arm (mto (n:=209) [(1,(.dat 1 (p1.map Qab))),(2,(Qej p2)),(3,.ref 0 2 0 0),(6,.ref 1 3 0 0),(9,.ref 2 3 0 0),(10,I y20),(11,I y21),(12,(I (w64 (y8+1))))] [0,1,2,3,4,5] [(Qhf p0),Qgu,(.own 3 [[(.acc 3 28 1 (y22.map Qag)),(.acc 4 90 4 (y23.map Qat)),(.acc 5 3 1 (y24.map Qab))]]),.tok,.tok,.tok] hq (pc (rnd Qah) (pc (rnd Qan) (prr (prr (prr (pw (pw (pw pn)))))))) (qb (lc (rnd Qao) (lc (rnd Qac) ln)) (qb (lcc (lc rwl ln)) (qb (lc (.rn (Qa2 rfl (Qay Qak _))) (lc (.rn (Qa2 rfl (Qay Qa7 _))) (lc (.rn (Qa2 rfl (Qay Qah _))) ln))) (qc .tok (qc .tok (qc .tok qn))))))) (ih (y20,y21,w64 (y8+1),y22,y23,y24) h)
    ·skip
     refine Qam ?_
     obtain⟨x26,hg27,h⟩:=bno h
     obtain⟨hi28,hj29⟩:=gsm hg27
     refine wx tbk [(3,rp _ _)] ⟨aiq underlying24 ti59 Qae hi28 hj29,tv⟩<|wxz ?_
     obtain⟨k35,hk_k35,h⟩:=jko h
     refine wjn (τ:=Int×(List Qaa)×(List (List Qaa))×(List Qa1)×(List Int)) (fun t=>k35 t=some r) (fun ⟨y30,y31,y32,y33,y34⟩=>⟨mk 209 [(1,(.dat 1 (p1.map Qab))),(2,(Qej p2)),(3,.ref 0 2 0 0),(6,.ref 1 3 0 0),(9,.ref 2 3 0 0),(10,I y6),(11,I y30),(12,I y8),(13,.ref 3 7 0 0),(14,(.dat 4 (y31.map Qad)))],[(Qhf p0),Qgu,(.own 3 [[(.acc 4 28 1 (y32.map Qag)),(.acc 5 90 4 (y33.map Qat)),(.acc 6 3 1 (y34.map Qab))]]),(Qek x26),.tok,.tok,.tok]⟩) (fun t h=>?_) ?_
     ·subst hk_k35
      obtain⟨y30,y31,y32,y33,y34⟩:=t
      obtain⟨k40,hk_k40,h⟩:=jko h
      refine wjn (τ:=(List Qaa)×(List (List Qaa))×(List Qa1)×(List Int)) (fun t=>k40 t=some r) (fun ⟨y36,y37,y38,y39⟩=>⟨mk 209 [(1,(.dat 1 (p1.map Qab))),(2,(Qej p2)),(3,.ref 0 2 0 0),(6,.ref 1 3 0 0),(9,.ref 2 3 0 0),(10,I y6),(11,I y30),(12,I y8),(13,.ref 3 7 0 0),(14,(.dat 4 (y36.map Qad)))],[(Qhf p0),Qgu,(.own 3 [[(.acc 4 28 1 (y37.map Qag)),(.acc 5 90 4 (y38.map Qat)),(.acc 6 3 1 (y39.map Qab))]]),(Qek x26),.tok,.tok,.tok]⟩) (fun t h=>?_) ?_
      ·subst hk_k40
       obtain⟨y36,y37,y38,y39⟩:=t
       obtain⟨x42,hf41,h⟩:=bno h
       refine wx tbk [(1,rp _ _)] ⟨apw Q4j (Qnu N y36 _ hf41),tv⟩<|wsq ?_
       obtain⟨x43,hg44,h⟩:=bno h
       obtain⟨hi45,hj46⟩:=gsm hg44
       obtain⟨x48,hf47,h⟩:=bno h
       refine wxd tbk [(5,rp _ _),(7,rp _ _)] ⟨aiq underlying27 ti3 Qab hi45 hj46,apw Zn3 (Qvo N x26 x43 _ hf47),tv⟩ ?_
       refine bfe h (fun hc49 h=>?_) fun hc49 h=>?_
       ·refine wft hc49<|wx tbk [(0,rp _ _)] ⟨Qaz (vs:=[]) rfl ts52 tz52 rfl (by rfl) rfl,tv⟩<|Qai<|Qaj<|Qar<|Qaj<|Qaj<|Qar<|Qaj ?_
        obtain rfl:=osi h
        exact fie [(.agg [(.dat 1 (([]:List (List Qaa)).map Qag)),(.dat 4 (([]:List Qa1).map Qat)),(.dat 1 (([]:List Int).map Qab))]),I 0,I y8] ⟨Qbz (v:=(.agg [nilS,nilS,nilS])) (Qbv (n:=1) (m:=3) (j:=0) (i:=0) (xs:=[[nilS,nilS,nilS]]) (by kernel_rfl) (by kernel_rfl) ti52 (by decide) rfl (nle rfl) rfl) (Less.agg ⟨Less.nil,Less.nil,Less.nil,tv⟩),rot,rot,tv⟩
       ·refine wfn hc49<|Qal<|thn ?_
        refine wx tbk [(1,⟨[(.tmp 89,(Zbl x42))],[(8,.unused)],(.own 8 4 (0) (1)),[(8,(Qrf x42))],false⟩)] ⟨Qn8 (vs:=[(Zbl x42)]) rfl underlying28 ti89 tz89 rfl (by decide) rfl (by decide) (by rfl) (by rfl) (by rfl) rfl,tv⟩<|wxz ?_
        obtain⟨k55,hk_k55,h⟩:=jko h
        refine wjn (τ:=(List (List Qaa))×(List Qa1)×(List Int)×(List Qaa)×Int) (fun t=>k55 t=some r) (fun ⟨y50,y51,y52,y53,y54⟩=>⟨mk 209 [(1,(.dat 1 (p1.map Qab))),(2,(Qej p2)),(3,.ref 0 2 0 0),(6,.ref 1 3 0 0),(9,.ref 2 3 0 0),(10,I y6),(11,I y30),(12,I y8),(13,.ref 3 7 0 0),(16,.ref 4 4 0 0),(17,(.own 5 4 (0) (1))),(18,.ref 6 4 0 0)],[(Qhf p0),Qgu,(Qot y50 y51 y52),(Qek x26),(Qiv x42),(.own 4 (y53.map Qad)),(Qre y54),.tok,.tok,.tok]⟩) (fun t h=>?_) ?_
        ·subst hk_k55
         obtain⟨y50,y51,y52,y53,y54⟩:=t
         obtain⟨k65,hk_k65,h⟩:=jko h
         refine wjn (τ:=Int×(List Qaa)×(List (List Qaa))×(List Qa1)×(List Int)×Int×Int×Int×Int) (fun t=>k65 t=some r) (fun ⟨y56,y57,y58,y59,y60,y61,y62,y63,y64⟩=>⟨mk 209 [(1,(.dat 1 (p1.map Qab))),(2,(Qej p2)),(3,.ref 0 2 0 0),(6,.ref 1 3 0 0),(9,.ref 2 3 0 0),(10,I y56),(11,I y30),(12,I y8),(13,.ref 3 7 0 0),(16,.ref 4 4 0 0),(17,(.dat 4 (y57.map Qad))),(18,.ref 5 4 0 0)],[(Qhf p0),Qgu,(.own 3 [[(.acc 6 28 1 (y58.map Qag)),(.acc 7 90 4 (y59.map Qat)),(.acc 8 3 1 (y60.map Qab))]]),(Qek x26),(Qiv x42),(.own 4 [[I y61,I y62,I y63,I y64]]),.tok,.tok,.tok]⟩) (fun t h=>?_) ?_
         ·subst hk_k65
          obtain⟨y56,y57,y58,y59,y60,y61,y62,y63,y64⟩:=t
          obtain⟨k74,hk_k74,h⟩:=jko h
          refine wjn (τ:=(List Qaa)×(List (List Qaa))×(List Qa1)×(List Int)×Int×Int×Int×Int) (fun t=>k74 t=some r) (fun ⟨y66,y67,y68,y69,y70,y71,y72,y73⟩=>⟨mk 209 [(1,(.dat 1 (p1.map Qab))),(2,(Qej p2)),(3,.ref 0 2 0 0),(6,.ref 1 3 0 0),(9,.ref 2 3 0 0),(10,I y56),(11,I y30),(12,I y8),(17,(.dat 4 (y66.map Qad))),(18,.ref 3 4 0 0)],[(Qhf p0),Qgu,(.own 3 [[(.acc 4 28 1 (y67.map Qag)),(.acc 5 90 4 (y68.map Qat)),(.acc 6 3 1 (y69.map Qab))]]),(.own 4 [[I y70,I y71,I y72,I y73]]),.tok,.tok,.tok]⟩) (fun t h=>?_) ?_
          ·subst hk_k74
           obtain⟨y66,y67,y68,y69,y70,y71,y72,y73⟩:=t
           obtain⟨ha75,h⟩:=cko h
           obtain⟨hz76,h⟩:=cko h
           obtain⟨ha77,h⟩:=cko h
           obtain⟨ha78,h⟩:=cko h
           refine wy1 tbk [(3,rp [(.tmp 185,(.dat 4 (y66.map Qad)))] (.dat 1 (([y66]:List (List Qaa)).map Qag))),(4,⟨[(.tmp 184,(.acc 4 28 1 (y67.map Qag))),(.tmp 186,(.dat 1 (([y66]:List (List Qaa)).map Qag)))],[(4,.tok),(7,.unused)],(Q03 y67 y66),[(4,.dead),(7,.tok)],false⟩),(8,⟨[(.tmp 190,(.agg [I y70,I y71,I y72,I y73]))],[(8,.unused)],(.own 8 4 (0) (1)),[(8,(.own 4 (([(⟨y70,y71,y72,y73⟩:Qa1)]:List Qa1).map Qat)))],false⟩),(9,⟨[(.tmp 189,(.acc 5 90 4 (y68.map Qat))),(.tmp 191,(.own 8 4 (0) (1)))],[(8,(.own 4 (([(⟨y70,y71,y72,y73⟩:Qa1)]:List Qa1).map Qat))),(5,.tok),(9,.unused)],(Q02 y68 y70 y71 y72 y73),[(5,.dead),(9,.tok)],false⟩),(14,rp _ _),(19,rp [(.tmp 201,(I (w64 (x43+y73))))] (.dat 1 (([w64 (x43+y73)]:List Int).map Qab))),(20,⟨[(.tmp 194,(.acc 6 3 1 (y69.map Qab))),(.tmp 202,(.dat 1 (([w64 (x43+y73)]:List Int).map Qab)))],[(6,.tok),(10,.unused)],(.acc 10 3 1 ((y69++([w64 (x43+y73)]):List Int).map Qab)),[(6,.dead),(10,.tok)],false⟩)] ⟨Qbm (vs:=[(.dat 4 (y66.map Qad))]) rfl underlying49 ti28 tz28 rfl (by decide) rfl (by decide) (by rfl) (by rfl) (by rfl) rfl,Qc6 rfl underlying49 te28 (Base.acc _ _) rfl rfl (by rfl) (Qf6 Qag ha75) (Qf5 Qag ha75 (by decide)) (Qf4 Qag) rfl rfl,Qn8 (vs:=[(.agg [I y70,I y71,I y72,I y73])]) rfl underlying50 ti90 tz90 rfl (by decide) rfl (by decide) (by rfl) (by rfl) (by rfl) rfl,Qh0 (rd':=[(.tmp 189,(.acc 5 90 4 (y68.map Qat))),(.tmp 191,(.dat 4 ((([(⟨y70,y71,y72,y73⟩:Qa1)]).take 1:List Qa1).map Qat)))]) [(8,4,([(⟨y70,y71,y72,y73⟩:Qa1)]:List Qa1).map Qat)] ⟨rfl,.same _,rfl,(Qtd 0 rfl hz76),tv⟩ (by rfl) (.acc _ _ _ _ (nin rfl) (by simp) (Qum Zdn _)) (Qpm .dead (Qpm .tok Qqm)) (Qc6 rfl underlying50 te90 (Base.acc _ _) rfl rfl (Qhz Qat Zc4 _) (Qf6 Qat ha77) (Qf5 Qat ha77 (by decide)) (Qf4 Qat) rfl rfl),aiq underlying27 ti3 Qab hi45 hj46,Qbm (vs:=[(I (w64 (x43+y73)))]) rfl underlying27 ti3 tz3 rfl (by decide) rfl (by decide) (by rfl) (by rfl) (by rfl) rfl,Qc6 rfl underlying27 te3 (Base.acc _ _) rfl rfl (by rfl) (Qf6 Qab ha78) (Qf5 Qab ha78 (by decide)) (Qf4 Qab) rfl rfl,tv⟩<|bln<|thn ?_
           exact⟨(y56,y30,y67++([y66]),y68++(([(⟨y70,y71,y72,y73⟩:Qa1)]).take 1),y69++([w64 (x43+y73)])),h,(mto (n:=209) [(1,(.dat 1 (p1.map Qab))),(2,(Qej p2)),(3,.ref 0 2 0 0),(6,.ref 1 3 0 0),(9,.ref 2 3 0 0),(10,I y56),(11,I y30),(12,I y8)] [0,1,2,7,9,10] [(Qhf p0),Qgu,(.own 3 [[(Q03 y67 y66),(Q02 y68 y70 y71 y72 y73),(.acc 10 3 1 ((y69++([w64 (x43+y73)]):List Int).map Qab))]]),.tok,.tok,.tok] hq (pc (rnd Qah) (pc (rnd Qan) (prr (prr (prr (pw (pw (pw pn)))))))) (qb (lc (rnd Qao) (lc (rnd Qac) ln)) (qb (lcc (lc rwl ln)) (qb (lc (.rn (Qa2 rfl (Qay Qak _))) (lc (.rn (Qa2 rfl (Qay Qa7 _))) (lc (.rn (Qa2 rfl (Qay Qah _))) ln))) (qc .tok (qc .tok (qc .tok qn)))))))⟩
          ·skip
           refine wxz ?_
           refine bfe h (fun hc79 h=>?_) fun hc79 h=>?_
           ·refine wft hc79 ?_
            obtain⟨x81,hf80,h⟩:=bno h
            refine wx tbk [(3,rp _ _)] ⟨apw Zee (Qo3 N x42 x26.Weights _ hf80),tv⟩ ?_
            exact wy1 tbk [(7,rp _ _)] ⟨Qaz (vs:=[I x81.2.Heat,I x81.2.Silica,I x81.2.Gas,I 0]) rfl ts90 tz90 rfl (by rfl) rfl,tv⟩<|thn<|⟨(x81.1,y58,y59,y60,x81.2.Heat,x81.2.Silica,x81.2.Gas,0),h,(mto (n:=209) [(1,(.dat 1 (p1.map Qab))),(2,(Qej p2)),(3,.ref 0 2 0 0),(6,.ref 1 3 0 0),(9,.ref 2 3 0 0),(10,I y56),(11,I y30),(12,I y8),(17,(.dat 4 (x81.1.map Qad))),(18,.ref 5 4 0 0)] [0,1,2,5,6,7,8] [(Qhf p0),Qgu,(.own 3 [[(.acc 6 28 1 (y58.map Qag)),(.acc 7 90 4 (y59.map Qat)),(.acc 8 3 1 (y60.map Qab))]]),(.own 4 [[I x81.2.Heat,I x81.2.Silica,I x81.2.Gas,I 0]]),.tok,.tok,.tok] hq (pc (rnd Qah) (pc (rnd Qan) (prr (prr (prr (pw (pw (pw (pc (rnd Qan) (prr pn)))))))))) (qb (lc (rnd Qao) (lc (rnd Qac) ln)) (qb (lcc (lc rwl ln)) (qb (lc (.rn (Qa2 rfl (Qay Qak _))) (lc (.rn (Qa2 rfl (Qay Qa7 _))) (lc (.rn (Qa2 rfl (Qay Qah _))) ln))) (qb (lcc (lcc ln)) (qc .tok (qc .tok (qc .tok qn))))))))⟩
           ·exact wfn hc79<|Qal<|thn<|⟨(y57,y58,y59,y60,y61,y62,y63,y64),h,(mto (n:=209) [(1,(.dat 1 (p1.map Qab))),(2,(Qej p2)),(3,.ref 0 2 0 0),(6,.ref 1 3 0 0),(9,.ref 2 3 0 0),(10,I y56),(11,I y30),(12,I y8),(17,(.dat 4 (y57.map Qad))),(18,.ref 5 4 0 0)] [0,1,2,5,6,7,8] [(Qhf p0),Qgu,(.own 3 [[(.acc 6 28 1 (y58.map Qag)),(.acc 7 90 4 (y59.map Qat)),(.acc 8 3 1 (y60.map Qab))]]),(.own 4 [[I y61,I y62,I y63,I y64]]),.tok,.tok,.tok] hq (pc (rnd Qah) (pc (rnd Qan) (prr (prr (prr (pw (pw (pw (pc (rnd Qan) (prr pn)))))))))) (qb (lc (rnd Qao) (lc (rnd Qac) ln)) (qb (lcc (lc rwl ln)) (qb (lc (.rn (Qa2 rfl (Qay Qak _))) (lc (.rn (Qa2 rfl (Qay Qa7 _))) (lc (.rn (Qa2 rfl (Qay Qah _))) ln))) (qb (lcc (lcc ln)) (qc .tok (qc .tok (qc .tok qn))))))))⟩
         ·skip
          refine wxz ?_
          refine bfe h (fun hc82 h=>?_) fun hc82 h=>?_
          ·refine wft hc82 ?_
           obtain⟨x83,hg84,h⟩:=bno h
           obtain⟨hi85,hj86⟩:=gsm hg84
           obtain⟨x88,hf87,h⟩:=bno h
           refine wxd tbk [(4,rp _ _),(7,rp _ _)] ⟨aiq underlying23 Qub Qap hi85 hj86,apw Zn2 (Qvr N x83 x42 _ hf87),tv⟩ ?_
           refine wx tbk [(4,rp [(.tmp 120,(Qrd x88)),(.tmp 122,(Q01 x88))] (Q00 x88))] ⟨Qbm (vs:=[(Qrd x88),(Q01 x88)]) rfl underlying28 ti89 tz89 rfl (by decide) rfl (by decide) (by rfl) (by rfl) (by rfl) rfl,tv⟩ ?_
           obtain⟨k96,hk_k96,h⟩:=jko h
           refine wjn (τ:=(List Qaa)×(List (List Qaa))×(List Qa1)×(List Int)×Int×Int×Int) (fun t=>k96 t=some r) (fun ⟨y89,y90,y91,y92,y93,y94,y95⟩=>⟨mk 209 [(1,(.dat 1 (p1.map Qab))),(2,(Qej p2)),(3,.ref 0 2 0 0),(6,.ref 1 3 0 0),(9,.ref 2 3 0 0),(10,I y6),(11,I y30),(12,I y8),(13,.ref 3 7 0 0),(16,.ref 4 4 0 0),(17,(.dat 4 (y89.map Qad))),(18,.ref 5 4 0 0),(19,.ref 6 10 0 0)],[(Qhf p0),Qgu,(.own 3 [[(.acc 7 28 1 (y90.map Qag)),(.acc 8 90 4 (y91.map Qat)),(.acc 9 3 1 (y92.map Qab))]]),(Qek x26),(Qiv x42),(.own 4 [[I y93,I y94,I y95,I 0]]),(Qu9 x88),.tok,.tok,.tok]⟩) (fun t h=>?_) ?_
           ·subst hk_k96
            obtain⟨y89,y90,y91,y92,y93,y94,y95⟩:=t
            refine wxz ?_
            obtain⟨x97,hl98,h⟩:=bno h
            exact wx1 tbk [(5,rp [(.tmp 164,(I (w64 (y6+x88.Steam.Mass))))] (I x97))] ⟨Qhe hl98 (aas rfl),tv⟩<|thn<|⟨(x97,y89,y90,y91,y92,y93,y94,y95,x88.Scale),h,(mto (n:=209) [(1,(.dat 1 (p1.map Qab))),(2,(Qej p2)),(3,.ref 0 2 0 0),(6,.ref 1 3 0 0),(9,.ref 2 3 0 0),(10,I x97),(11,I y30),(12,I y8),(13,.ref 3 7 0 0),(16,.ref 4 4 0 0),(17,(.dat 4 (y89.map Qad))),(18,.ref 5 4 0 0)] [0,1,2,3,4,5,7,8,9] [(Qhf p0),Qgu,(.own 3 [[(.acc 7 28 1 (y90.map Qag)),(.acc 8 90 4 (y91.map Qat)),(.acc 9 3 1 (y92.map Qab))]]),(Qek x26),(Qiv x42),(.own 4 [[I y93,I y94,I y95,I x88.Scale]]),.tok,.tok,.tok] hq (pc (rnd Qah) (pc (rnd Qan) (prr (prr (prr (pw (pw (pw (prr (prr (pc (rnd Qan) (prr pn)))))))))))) (qb (lc (rnd Qao) (lc (rnd Qac) ln)) (qb (lcc (lc rwl ln)) (qb (lc (.rn (Qa2 rfl (Qay Qak _))) (lc (.rn (Qa2 rfl (Qay Qa7 _))) (lc (.rn (Qa2 rfl (Qay Qah _))) ln))) (qb (lc rwl (lc (rnd Qbh) (lcc (lcc (lc (rnd Qah) ln))))) (qb (lcc (lcc ln)) (qb (lcc (lcc ln)) (qc .tok (qc .tok (qc .tok qn))))))))))⟩
           ·skip
            refine wxz ?_
            refine bfe h (fun hc99 h=>?_) fun hc99 h=>?_
            ·refine wft hc99 ?_
             obtain⟨x101,hf100,h⟩:=bno h
             refine wx tbk [(7,rp [(.tmp 132,(I (w64 (1000-x26.Amount)))),(.tmp 134,I x26.Amount)] (Zbn x26)),(8,rp _ _)] ⟨Qbm (vs:=[(I (w64 (1000-x26.Amount))),I x26.Amount]) rfl underlying27 ti3 tz3 rfl (by decide) rfl (by decide) (by rfl) (by rfl) (by rfl) rfl,apw Zee (Qo3 N (⟨x88.Water.Mass,x88.Water.Heat,x88.Water.Silica,x88.Water.Gas⟩:Qaa) ([w64 (1000-x26.Amount),x26.Amount]) _ hf100),tv⟩ ?_
             obtain⟨x102,hg103,h⟩:=bno h
             obtain⟨hi104,hj105⟩:=gsm hg103
             obtain⟨x107,hf106,h⟩:=bno h
             obtain⟨x108,hg109,h⟩:=bno h
             obtain⟨hi110,hj111⟩:=gsm hg109
             refine wxd tbk [(3,rp _ _),(5,rp [(.tmp 140,(Qrd x88)),(.tmp 143,(Q5z x102))] (Zbm x88 x102)),(6,rp _ _),(8,rp _ _),(10,rp [(.tmp 145,(Q0z x107)),(.tmp 148,(Q0y x108))] (.dat 4 (([x107,x108]:List Qaa).map Qad)))] ⟨aiq underlying28 ti89 Qad hi104 hj105,Qbm (vs:=[(Qrd x88),(Q5z x102)]) rfl underlying28 ti89 tz89 rfl (by decide) rfl (by decide) (by rfl) (by rfl) (by rfl) rfl,apw Q4j (Qnu N ([(⟨x88.Steam.Mass,x88.Steam.Heat,x88.Steam.Silica,x88.Steam.Gas⟩:Qaa),x102]) _ hf106),aiq underlying28 ti89 Qad hi110 hj111,Qbm (vs:=[(Q0z x107),(Q0y x108)]) rfl underlying28 ti89 tz89 rfl (by decide) rfl (by decide) (by rfl) (by rfl) (by rfl) rfl,tv⟩ ?_
             exact wx1 tbk [(6,rp _ _)] ⟨Qaz (vs:=[I x101.2.Heat,I x101.2.Silica,I x101.2.Gas,I 0]) rfl ts90 tz90 rfl (by rfl) rfl,tv⟩<|thn<|⟨([x107,x108],y50,y51,y52,x101.2.Heat,x101.2.Silica,x101.2.Gas),h,(mto (n:=209) [(1,(.dat 1 (p1.map Qab))),(2,(Qej p2)),(3,.ref 0 2 0 0),(6,.ref 1 3 0 0),(9,.ref 2 3 0 0),(10,I y6),(11,I y30),(12,I y8),(13,.ref 3 7 0 0),(16,.ref 4 4 0 0),(17,(.dat 4 (([x107,x108]:List Qaa).map Qad))),(18,.ref 6 4 0 0),(19,.ref 10 10 0 0)] [0,1,2,3,4,6,10,7,8,9] [(Qhf p0),Qgu,(Qot y50 y51 y52),(Qek x26),(Qiv x42),(.own 4 [[I x101.2.Heat,I x101.2.Silica,I x101.2.Gas,I 0]]),(Qu9 x88),.tok,.tok,.tok] hq (pc (rnd Qah) (pc (rnd Qan) (prr (prr (prr (pw (pw (pw (prr (prr (pc (rnd Qan) (prr (prr pn))))))))))))) (qb (lc (rnd Qao) (lc (rnd Qac) ln)) (qb (lcc (lc rwl ln)) (qb (lc (.rn (Qa2 rfl (Qay Qak _))) (lc (.rn (Qa2 rfl (Qay Qa7 _))) (lc (.rn (Qa2 rfl (Qay Qah _))) ln))) (qb (lc rwl (lc (rnd Qbh) (lcc (lcc (lc (rnd Qah) ln))))) (qb (lcc (lcc ln)) (qb (lcc (lcc ln)) (qb (lcc (lcc (lcc (lcc (lcc ln))))) (qc .tok (qc .tok (qc .tok qn)))))))))))⟩
            ·exact wfn hc99<|Qal<|thn<|⟨([(⟨x88.Steam.Mass,x88.Steam.Heat,x88.Steam.Silica,x88.Steam.Gas⟩:Qaa),(⟨x88.Water.Mass,x88.Water.Heat,x88.Water.Silica,x88.Water.Gas⟩:Qaa)],y50,y51,y52,y54,0,0),h,(mto (n:=209) [(1,(.dat 1 (p1.map Qab))),(2,(Qej p2)),(3,.ref 0 2 0 0),(6,.ref 1 3 0 0),(9,.ref 2 3 0 0),(10,I y6),(11,I y30),(12,I y8),(13,.ref 3 7 0 0),(16,.ref 4 4 0 0),(17,(Q00 x88)),(18,.ref 6 4 0 0),(19,.ref 10 10 0 0)] [0,1,2,3,4,6,10,7,8,9] [(Qhf p0),Qgu,(Qot y50 y51 y52),(Qek x26),(Qiv x42),(Qre y54),(Qu9 x88),.tok,.tok,.tok] hq (pc (rnd Qah) (pc (rnd Qan) (prr (prr (prr (pw (pw (pw (prr (prr (pc (rnd Qan) (prr (prr pn))))))))))))) (qb (lc (rnd Qao) (lc (rnd Qac) ln)) (qb (lcc (lc rwl ln)) (qb (lc (.rn (Qa2 rfl (Qay Qak _))) (lc (.rn (Qa2 rfl (Qay Qa7 _))) (lc (.rn (Qa2 rfl (Qay Qah _))) ln))) (qb (lc rwl (lc (rnd Qbh) (lcc (lcc (lc (rnd Qah) ln))))) (qb (lcc (lcc ln)) (qb (lcc (lcc ln)) (qb (lcc (lcc (lcc (lcc (lcc ln))))) (qc .tok (qc .tok (qc .tok qn)))))))))))⟩
          ·refine wfn hc82<|Qal<|thn ?_
           obtain⟨hz112,h⟩:=cko h
           exact⟨(y6,y53.take 1,y50,y51,y52,y54,0,0,0),h,(Mor.trans (Q6t (n:=209) (m:=4) (xs:=y53.map Qad) (l':=[(1,(.dat 1 (p1.map Qab))),(2,(Qej p2)),(3,.ref 0 2 0 0),(6,.ref 1 3 0 0),(9,.ref 2 3 0 0),(10,I y6),(11,I y30),(12,I y8),(13,.ref 3 7 0 0),(16,.ref 4 4 0 0),(17,(.dat 4 ((y53.take 1:List Qaa).map Qad))),(18,.ref 6 4 0 0)]) (own':=[(Qhf p0),Qgu,(Qot y50 y51 y52),(Qek x26),(Qiv x42),.dead,(Qre y54),.tok,.tok,.tok]) 5 [(1,(.dat 1 (p1.map Qab))),(2,(Qej p2)),(3,.ref 0 2 0 0),(6,.ref 1 3 0 0),(9,.ref 2 3 0 0),(10,I y6),(11,I y30),(12,I y8),(13,.ref 3 7 0 0),(16,.ref 4 4 0 0),(17,(.own 5 4 (0) (1))),(18,.ref 6 4 0 0)] (by kernel_rfl) (by kernel_rfl) (by kernel_rfl) ⟨rfl,.same _,rfl,.same _,rfl,.same _,rfl,.same _,rfl,.same _,rfl,.same _,rfl,.same _,rfl,.same _,rfl,.same _,rfl,.same _,rfl,(Qlo hz112),rfl,.same _,tv⟩ (by kernel_rfl)) (mto (n:=209) [(1,(.dat 1 (p1.map Qab))),(2,(Qej p2)),(3,.ref 0 2 0 0),(6,.ref 1 3 0 0),(9,.ref 2 3 0 0),(10,I y6),(11,I y30),(12,I y8),(13,.ref 3 7 0 0),(16,.ref 4 4 0 0),(17,(.dat 4 ((y53.take 1:List Qaa).map Qad))),(18,.ref 6 4 0 0)] [0,1,2,3,4,6,7,8,9] [(Qhf p0),Qgu,(Qot y50 y51 y52),(Qek x26),(Qiv x42),(Qre y54),.tok,.tok,.tok] hq (pc (rnd Qah) (pc (rnd Qan) (prr (prr (prr (pw (pw (pw (prr (prr (pc (rnd Qan) (prr pn)))))))))))) (qb (lc (rnd Qao) (lc (rnd Qac) ln)) (qb (lcc (lc rwl ln)) (qb (lc (.rn (Qa2 rfl (Qay Qak _))) (lc (.rn (Qa2 rfl (Qay Qa7 _))) (lc (.rn (Qa2 rfl (Qay Qah _))) ln))) (qb (lc rwl (lc (rnd Qbh) (lcc (lcc (lc (rnd Qah) ln))))) (qb (lcc (lcc ln)) (qb (lcc (lcc ln)) (qc .tok (qc .tok (qc .tok qn)))))))))))⟩
        ·skip
         refine wxz ?_
         refine bfe h (fun hc113 h=>?_) fun hc113 h=>?_
         ·refine wft hc113<|wx tbk [(4,rp [(.tmp 95,I x26.Amount),(.tmp 97,I x42.Heat)] (I ((if x42.Heat<x26.Amount then x42.Heat else x26.Amount))))] ⟨Qpe rfl,tv⟩ ?_
          obtain⟨x114,hl115,h⟩:=bno h
          obtain⟨hi116,h⟩:=cko h
          obtain⟨hi116a,hi116b⟩:=Qcu hi116
          obtain⟨x117,hg118,h⟩:=bno h
          refine wx1 tbk [(5,rp [(.tmp 102,I x42.Heat),(.tmp 104,(I ((if x42.Heat<x26.Amount then x42.Heat else x26.Amount))))] (I x114)),(6,rb [(.tmp 100,(.own 8 4 (0) (1))),ci 0] [(8,(Qrf x42))] (.ref 8 4 ((0:Int).toNat) 0)),(8,⟨[(.tmp 107,(.ref 8 4 ((0:Int).toNat) 1)),(.tmp 105,I x114)],[(8,(Qrf x42))],.any,[(8,(Q0x x42 x117 x114))],false⟩)] ⟨Qhe hl115 (abn rfl rfl),aio rfl underlying28 ti89 (odt hi116a) (odt hi116b) (Nat.zero_add _),ast rfl ti3 (by rfl) (mgt Qad hg118) (nle rfl) (Qfe Qad rfl),tv⟩<|thn ?_
          exact⟨(y37,y38,y39,([x42]).set ((0:Int).toNat) (⟨x117.Mass,x114,x117.Silica,x117.Gas⟩:Qaa),(if x42.Heat<x26.Amount then x42.Heat else x26.Amount)),h,(mto (n:=209) [(1,(.dat 1 (p1.map Qab))),(2,(Qej p2)),(3,.ref 0 2 0 0),(6,.ref 1 3 0 0),(9,.ref 2 3 0 0),(10,I y6),(11,I y30),(12,I y8),(13,.ref 3 7 0 0),(16,.ref 7 4 0 0),(17,(.own 8 4 (0) (1))),(18,.ref 9 4 0 0)] [0,1,2,3,7,8,9,4,5,6] [(Qhf p0),Qgu,(.own 3 [[(.acc 4 28 1 (y37.map Qag)),(.acc 5 90 4 (y38.map Qat)),(.acc 6 3 1 (y39.map Qab))]]),(Qek x26),(Qiv x42),(Q0x x42 x117 x114),(.own 4 [[(I ((if x42.Heat<x26.Amount then x42.Heat else x26.Amount))),I 0,I 0,I 0]]),.tok,.tok,.tok] hq (pc (rnd Qah) (pc (rnd Qan) (prr (prr (prr (pw (pw (pw (prr (prr (pc (.rn (Qav rfl)) (prr pn)))))))))))) (qb (lc (rnd Qao) (lc (rnd Qac) ln)) (qb (lcc (lc rwl ln)) (qb (lc (.rn (Qa2 rfl (Qay Qak _))) (lc (.rn (Qa2 rfl (Qay Qa7 _))) (lc (.rn (Qa2 rfl (Qay Qah _))) ln))) (qb (lc rwl (lc (rnd Qbh) (lcc (lcc (lc (rnd Qah) ln))))) (qb (lcc (lcc ln)) (qc (spr Qan) (qb (lcc (lcc ln)) (qc .tok (qc .tok (qc .tok qn)))))))))))⟩
         ·exact wfn hc113<|Qal<|thn<|⟨(y37,y38,y39,[x42],0),h,(mto (n:=209) [(1,(.dat 1 (p1.map Qab))),(2,(Qej p2)),(3,.ref 0 2 0 0),(6,.ref 1 3 0 0),(9,.ref 2 3 0 0),(10,I y6),(11,I y30),(12,I y8),(13,.ref 3 7 0 0),(16,.ref 7 4 0 0),(17,(.own 8 4 (0) (1))),(18,.ref 9 4 0 0)] [0,1,2,3,7,8,9,4,5,6] [(Qhf p0),Qgu,(.own 3 [[(.acc 4 28 1 (y37.map Qag)),(.acc 5 90 4 (y38.map Qat)),(.acc 6 3 1 (y39.map Qab))]]),(Qek x26),(Qiv x42),(Qrf x42),(.own 4 [[I 0,I 0,I 0,I 0]]),.tok,.tok,.tok] hq (pc (rnd Qah) (pc (rnd Qan) (prr (prr (prr (pw (pw (pw (prr (prr (pc (.rn (Qav rfl)) (prr pn)))))))))))) (qb (lc (rnd Qao) (lc (rnd Qac) ln)) (qb (lcc (lc rwl ln)) (qb (lc (.rn (Qa2 rfl (Qay Qak _))) (lc (.rn (Qa2 rfl (Qay Qa7 _))) (lc (.rn (Qa2 rfl (Qay Qah _))) ln))) (qb (lc rwl (lc (rnd Qbh) (lcc (lcc (lc (rnd Qah) ln))))) (qb (lcc (lcc ln)) (qc (spr Qan) (qb (lcc (lcc ln)) (qc .tok (qc .tok (qc .tok qn)))))))))))⟩
      ·skip
       refine wxz<|Qam ?_
       refine wmr (mto (n:=209) (l':=[(1,(.dat 1 (p1.map Qab))),(2,(Qej p2)),(3,.ref 0 2 0 0),(6,.ref 1 3 0 0),(9,.ref 2 3 0 0),(10,I y6),(11,I y30),(12,I y8),(13,.ref 3 7 0 0),(14,(.dat 4 (y31.map Qad))),(15,I 0)]) (own':=[(Qhf p0),Qgu,(.own 3 [[(.acc 4 28 1 (y32.map Qag)),(.acc 5 90 4 (y33.map Qat)),(.acc 6 3 1 (y34.map Qab))]]),(Qek x26),.tok,.tok,.tok]) [(1,(.dat 1 (p1.map Qab))),(2,(Qej p2)),(3,.ref 0 2 0 0),(6,.ref 1 3 0 0),(9,.ref 2 3 0 0),(10,I y6),(11,I y30),(12,I y8),(13,.ref 3 7 0 0),(14,(.dat 4 (y31.map Qad))),(15,I 0)] [0,1,2,3,4,5,6] [(Qhf p0),Qgu,(.own 3 [[(.acc 4 28 1 (y32.map Qag)),(.acc 5 90 4 (y33.map Qat)),(.acc 6 3 1 (y34.map Qab))]]),(Qek x26),.tok,.tok,.tok] hq (pc (rnd Qah) (pc (rnd Qan) (prr (prr (prr (pw (pw (pw (prr (pc (rnd Qan) (pw pn))))))))))) (qb (lc (rnd Qao) (lc (rnd Qac) ln)) (qb (lcc (lc rwl ln)) (qb (lc (.rn (Qa2 rfl (Qay Qak _))) (lc (.rn (Qa2 rfl (Qay Qa7 _))) (lc (.rn (Qa2 rfl (Qay Qah _))) ln))) (qb (lc rwl (lc (rnd Qbh) (lcc (lcc (lc (rnd Qah) ln))))) (qc .tok (qc .tok (qc .tok qn)))))))) ?_
       refine Qbl (τ:=(List Qaa)×Int×(List (List Qaa))×(List Qa1)×(List Int)) (fun n t=>Qgl N x26 k40 n t.1 t.2.1 t.2.2.1 t.2.2.2.1 t.2.2.2.2=some r) (fun ⟨y119,y120,y121,y122,y123⟩=>⟨mk 209 [(1,(.dat 1 (p1.map Qab))),(2,(Qej p2)),(3,.ref 0 2 0 0),(6,.ref 1 3 0 0),(9,.ref 2 3 0 0),(10,I y6),(11,I y30),(12,I y8),(13,.ref 3 7 0 0),(14,(.dat 4 (y119.map Qad))),(15,I y120)],[(Qhf p0),Qgu,(.own 3 [[(.acc 4 28 1 (y121.map Qag)),(.acc 5 90 4 (y122.map Qat)),(.acc 6 3 1 (y123.map Qab))]]),(Qek x26),.tok,.tok,.tok]⟩) (fun t h=>by rw[Qgl] at h;cases h) (fun n129 ih t h=>?_) N (y31,0,y32,y33,y34) h
       obtain⟨y119,y120,y121,y122,y123⟩:=t
       rw[Qgl] at h
       skip
       refine wsq<|wx tbk [(3,rp _ _)] ⟨alq 2 Qaw x26.From underlying57,tv⟩ ?_
       refine bfe h (fun hc130 h=>?_) fun hc130 h=>?_
       ·refine wft hc130<|Qal<|thn<|wsq<|Qam ?_
        obtain⟨ha131,h⟩:=cko h
        obtain⟨x132,hg133,h⟩:=bno h
        obtain⟨hi134,hj135⟩:=gsm hg133
        obtain⟨x136,hg137,h⟩:=bno h
        obtain⟨hi138,hj139⟩:=gsm hg137
        obtain⟨x140,hg141,h⟩:=bno h
        obtain⟨hi142,hj143⟩:=gsm hg141
        obtain⟨hz144,h⟩:=cko h
        obtain⟨ha145,h⟩:=cko h
        refine wy1 tbk [(0,⟨[],[(7,.unused)],Q51,[(7,.tok)],false⟩),(2,⟨[(.tmp 53,Q51),(.tmp 54,(.dat 4 (y119.map Qad)))],[(7,.tok),(8,.unused)],(Qu8 y119),[(7,.dead),(8,.tok)],false⟩),(8,rp _ _),(11,rp [(.tmp 57,(.acc 4 28 1 (y121.map Qag))),(.tmp 63,I x132.Element)] (.dptr (Qag x136) 0)),(16,rp _ _),(19,rp _ _),(21,⟨[(.tmp 73,(Q0w x140))],[(9,.unused)],(.own 9 4 (0) (1)),[(9,(.own 4 (([x140]:List Qaa).map Qad)))],false⟩),(22,⟨[(.tmp 55,(Qu8 y119)),(.tmp 74,(.own 9 4 (0) (1)))],[(9,(.own 4 (([x140]:List Qaa).map Qad))),(8,.tok),(10,.unused)],(.acc 10 89 4 (((([]:List Qaa)++y119)++(([x140]).take 1):List Qaa).map Qad)),[(8,.dead),(10,.tok)],false⟩)] ⟨Qd4 rfl underlying28 ti89 tz89,Qc6 rfl underlying28 te89 (Base.acc _ _) rfl rfl (Qhz Qad Qv2 _) (Qf6 Qad ha131) (Qf5 Qad ha131 (by decide)) (Qf4 Qad) rfl rfl,aiq underlying57 ti61 Qaw hi134 hj135,aid rfl underlying49 ti28 rfl rfl hi138 (mgt Qag hj139) rfl,aiq underlying57 ti61 Qaw hi134 hj135,aiq underlying28 ti89 Qad hi142 hj143,Qn8 (vs:=[(Q0w x140)]) rfl underlying28 ti89 tz89 rfl (by decide) rfl (by decide) (by rfl) (by rfl) (by rfl) rfl,Qh0 (rd':=[(.tmp 55,(Qu8 y119)),(.tmp 74,(.dat 4 ((([x140]).take 1:List Qaa).map Qad)))]) [(9,4,([x140]:List Qaa).map Qad)] ⟨rfl,.same _,rfl,(Qtd 0 rfl hz144),tv⟩ (by rfl) (.acc _ _ _ _ (nin rfl) (by simp) (Qum Qv8 _)) (Qpm .dead (Qpm .tok Qqm)) (Qc6 rfl underlying28 te89 (Base.acc _ _) rfl rfl (Qhz Qad Qv2 _) (Qf6 Qad ha145) (Qf5 Qad ha145 (by decide)) (Qf4 Qad) rfl rfl),tv⟩<|bln<|thn<|wxz1<|thn ?_
        exact arm (mto (n:=209) [(1,(.dat 1 (p1.map Qab))),(2,(Qej p2)),(3,.ref 0 2 0 0),(6,.ref 1 3 0 0),(9,.ref 2 3 0 0),(10,I y6),(11,I y30),(12,I y8),(13,.ref 3 7 0 0),(14,(.acc 10 89 4 (((([]:List Qaa)++y119)++(([x140]).take 1):List Qaa).map Qad))),(15,(I (w64 (y120+1))))] [0,1,2,3,4,5,6] [(Qhf p0),Qgu,(.own 3 [[(.acc 4 28 1 (y121.map Qag)),(.acc 5 90 4 (y122.map Qat)),(.acc 6 3 1 (y123.map Qab))]]),(Qek x26),.tok,.tok,.tok] hq (pc (rnd Qah) (pc (rnd Qan) (prr (prr (prr (pw (pw (pw (prr (pc (.dat _ _ _ _ (Qay Qan _)) (pw pn))))))))))) (qb (lc (rnd Qao) (lc (rnd Qac) ln)) (qb (lcc (lc rwl ln)) (qb (lc (.rn (Qa2 rfl (Qay Qak _))) (lc (.rn (Qa2 rfl (Qay Qa7 _))) (lc (.rn (Qa2 rfl (Qay Qah _))) ln))) (qb (lc rwl (lc (rnd Qbh) (lcc (lcc (lc (rnd Qah) ln))))) (qc .tok (qc .tok (qc .tok qn)))))))) (ih ((([]:List Qaa)++y119)++(([x140]).take 1),w64 (y120+1),y121,y122,y123) h)
       ·exact wfn hc130<|Qa6<|Qau<|Qau<|Qa5 rfl<|thn<|⟨(y119,y121,y122,y123),h,(mto (n:=209) [(1,(.dat 1 (p1.map Qab))),(2,(Qej p2)),(3,.ref 0 2 0 0),(6,.ref 1 3 0 0),(9,.ref 2 3 0 0),(10,I y6),(11,I y30),(12,I y8),(13,.ref 3 7 0 0),(14,(.dat 4 (y119.map Qad)))] [0,1,2,3,4,5,6] [(Qhf p0),Qgu,(.own 3 [[(.acc 4 28 1 (y121.map Qag)),(.acc 5 90 4 (y122.map Qat)),(.acc 6 3 1 (y123.map Qab))]]),(Qek x26),.tok,.tok,.tok] hq (pc (rnd Qah) (pc (rnd Qan) (prr (prr (prr (pw (pw (pw (prr (pc (rnd Qan) pn)))))))))) (qb (lc (rnd Qao) (lc (rnd Qac) ln)) (qb (lcc (lc rwl ln)) (qb (lc (.rn (Qa2 rfl (Qay Qak _))) (lc (.rn (Qa2 rfl (Qay Qa7 _))) (lc (.rn (Qa2 rfl (Qay Qah _))) ln))) (qb (lc rwl (lc (rnd Qbh) (lcc (lcc (lc (rnd Qah) ln))))) (qc .tok (qc .tok (qc .tok qn))))))))⟩
     ·skip
      refine wxz ?_
      refine bfe h (fun hc146 h=>?_) fun hc146 h=>?_
      ·refine wft hc146 ?_
       obtain⟨hs147,h⟩:=cko h
       exact wx tbk [(4,rp [(.tmp 39,(Qej p2)),(.tmp 40,I y7),(.tmp 42,(I (w64 (y7+1))))] (Q04 p2 y7))] ⟨Qmw (k:=.i64) (k':=.i64) (lo:=some (.tmp 40)) (hi:=some (.tmp 42)) (l:=y7) (hh:=w64 (y7+1)) rfl underlying28 ti89 rfl (fun e=>nomatch e) (fun e=>nomatch e) (Qw4 hs147) (Qw3 hs147) (Zjk Qad hs147) (Ztl Qad),tv⟩<|wxz1<|thn<|⟨(w64 (y7+1),(p2.drop y7.toNat).take ((w64 (y7+1)).toNat-y7.toNat),y9,y10,y11),h,(mto (n:=209) [(1,(.dat 1 (p1.map Qab))),(2,(Qej p2)),(3,.ref 0 2 0 0),(6,.ref 1 3 0 0),(9,.ref 2 3 0 0),(10,I y6),(11,(I (w64 (y7+1)))),(12,I y8),(13,.ref 6 7 0 0),(14,(Q04 p2 y7))] [0,1,2,6,3,4,5] [(Qhf p0),Qgu,(Qrg y9 y10 y11),(Qek x26),.tok,.tok,.tok] hq (pc (rnd Qah) (pc (rnd Qan) (prr (prr (prr (pw (pw (pw (prr (pc (rnd Qan) pn)))))))))) (qb (lc (rnd Qao) (lc (rnd Qac) ln)) (qb (lcc (lc rwl ln)) (qb (lc (.rn (Qa2 rfl (Qay Qak _))) (lc (.rn (Qa2 rfl (Qay Qa7 _))) (lc (.rn (Qa2 rfl (Qay Qah _))) ln))) (qb (lc rwl (lc (rnd Qbh) (lcc (lcc (lc (rnd Qah) ln))))) (qc .tok (qc .tok (qc .tok qn))))))))⟩
      ·exact wfn hc146<|Qal<|thn<|⟨(y7,[],y9,y10,y11),h,(mto (n:=209) [(1,(.dat 1 (p1.map Qab))),(2,(Qej p2)),(3,.ref 0 2 0 0),(6,.ref 1 3 0 0),(9,.ref 2 3 0 0),(10,I y6),(11,I y7),(12,I y8),(13,.ref 6 7 0 0),(14,nilS)] [0,1,2,6,3,4,5] [(Qhf p0),Qgu,(Qrg y9 y10 y11),(Qek x26),.tok,.tok,.tok] hq (pc (rnd Qah) (pc (rnd Qan) (prr (prr (prr (pw (pw (pw (prr (pc (.nil _) pn)))))))))) (qb (lc (rnd Qao) (lc (rnd Qac) ln)) (qb (lcc (lc rwl ln)) (qb (lc (.rn (Qa2 rfl (Qay Qak _))) (lc (.rn (Qa2 rfl (Qay Qa7 _))) (lc (.rn (Qa2 rfl (Qay Qah _))) ln))) (qb (lc rwl (lc (rnd Qbh) (lcc (lcc (lc (rnd Qah) ln))))) (qc .tok (qc .tok (qc .tok qn))))))))⟩
   ·exact wfn hc19<|Qa6<|Qau<|Qau<|Qa5 rfl<|thn<|⟨(y6,y9,y10,y11),h,(mto (n:=209) [(6,.ref 1 3 0 0),(9,.ref 2 3 0 0),(10,I y6)] [1,2,3,4,5] [Qgu,(Qrg y9 y10 y11),.tok,.tok,.tok] hq (prr (prr (pw pn))) (qb (lcc (lc rwl ln)) (qb (lc (.rn (Qa2 rfl (Qay Qak _))) (lc (.rn (Qa2 rfl (Qay Qa7 _))) (lc (.rn (Qa2 rfl (Qay Qah _))) ln))) (qc .tok (qc .tok (qc .tok qn))))))⟩
def Qfj (N:Nat) (p0 p1:List Int) (k2:Unit→Option Bool):Nat→Int→Option Bool
  |0,_=>none
  |n5+1,y3=>
    bif (decide (y3<(p0.length:Int))) then
     (getI p0 y3).bind fun x7=>
     (getI p1 y3).bind fun x11=>
     bif (x7 != x11) then
      some false
     else
      Qfj N p0 p1 k2 n5 (w64 (y3+1))
    else
     k2 ()
def Qkg (N:Nat) (p0 p1:List Int):Option Bool:=
  bif ((p0.length:Int) != (p1.length:Int)) then
   some false
  else
   Qbc (fun _=>
     some true) fun k2:Unit→Option Bool=>
   Qfj N p0 p1 k2 N 0
theorem Qxg (N:Nat) (p0 p1:List Int) (r:Bool) (h:Qkg N p0 p1=some r):Spec prog 49 [(.dat 1 (p0.map Qab)),(.dat 1 (p1.map Qab))] [] (B r) []:=by
  refine sA func49 0 fun _ _ _ hq hd0=>?_
  unfold Qkg at h
  refine wxz<|wsq ?_
  refine wx tbk [(1,rp _ _),(3,rp _ _)] ⟨alq 1 Qab p0 underlying27,alq 1 Qab p1 underlying27,tv⟩ ?_
  refine bfe h (fun hc1 h=>?_) fun hc1 h=>?_
  ·exact wft hc1<|wxz<|Qai<|Qaj<|frb h
  ·refine wfn hc1<|Qal<|thn ?_
   obtain⟨k2,hk_k2,h⟩:=jko h
   refine wjn (τ:=Unit) (fun t=>k2 t=some r) (fun _=>⟨mk 26 [],[]⟩) (fun t h=>?_) ?_
   ·subst hk_k2
    exact wxz<|Qai<|frb h
   ·skip
    refine wxz<|Qam ?_
    refine wmr (mto (n:=26) (l':=[(0,(.dat 1 (p0.map Qab))),(1,(.dat 1 (p1.map Qab))),(5,I 0)]) (own':=[]) [(0,(.dat 1 (p0.map Qab))),(1,(.dat 1 (p1.map Qab))),(5,I 0)] [] [] hq (pc (rnd Qah) (pc (rnd Qah) (pw pn))) qn) ?_
    refine Qbl (τ:=Int) (fun n t=>Qfj N p0 p1 k2 n t=some r) (fun y3=>⟨mk 26 [(0,(.dat 1 (p0.map Qab))),(1,(.dat 1 (p1.map Qab))),(5,I y3)],[]⟩) (fun t h=>by rw[Qfj] at h;cases h) (fun n5 ih y3 h=>?_) N (0) h
    rw[Qfj] at h
    skip
    refine wsq<|wx tbk [(2,rp _ _)] ⟨alq 1 Qab p0 underlying27,tv⟩ ?_
    refine bfe h (fun hc6 h=>?_) fun hc6 h=>?_
    ·refine wft hc6<|Qal<|thn<|wsq<|Qam ?_
     obtain⟨x7,hg8,h⟩:=bno h
     obtain⟨hi9,hj10⟩:=gsm hg8
     obtain⟨x11,hg12,h⟩:=bno h
     obtain⟨hi13,hj14⟩:=gsm hg12
     refine wxd tbk [(2,rp _ _),(6,rp _ _)] ⟨aiq underlying27 ti3 Qab hi9 hj10,aiq underlying27 ti3 Qab hi13 hj14,tv⟩ ?_
     refine bfe h (fun hc15 h=>?_) fun hc15 h=>?_
     ·exact wft hc15<|wxz<|Qai<|Qar<|Qaj<|Qaj<|Qar<|Qaj<|frb h
     ·exact wfn hc15<|Qal<|bln<|thn<|wxz1<|thn<|arm (mto (n:=26) [(0,(.dat 1 (p0.map Qab))),(1,(.dat 1 (p1.map Qab))),(5,(I (w64 (y3+1))))] [] [] hq (pc (rnd Qah) (pc (rnd Qah) (pw pn))) qn) (ih (w64 (y3+1)) h)
    ·exact wfn hc6<|Qa6<|Qau<|Qau<|Qa5 rfl<|thn<|⟨(),h,(mto (n:=26) [] [] [] hq pn qn)⟩
end
section
open Go.RowKit
theorem Q33 (N:Nat) {r:GRow}{s:Qaa}(hr:RowV r) (hs:StrV s):Qjf N r s=some (flG r s):=by
 have hw:=Zgh hr hs
 have hc:=Qrl hr hs
 obtain⟨l0,l1,lv,v1,s0,s1⟩:=hr
 obtain⟨m0,m1,h0,h1,q0,q1,_,_⟩:=hs
 have p1:=bdp m0 m1 s0 s1 (by omega)
 have hd:((r.Vapour-r.Liquid) != 0)=true:=by simp;omega
 unfold Qjf
 simp only[hw.a,hw.b,hw.c,hw.d,Option.bind_some,Qbc,hd,chk,cond_true]
 unfold flG
 have none0:∀(x:Int),w64 (s.Silica-(if w64 (s.Silica-w64 (s.Mass*r.Silica))>0 then w64 (s.Silica-w64 (s.Mass*r.Silica)) else 0))=min (s.Mass*r.Silica) s.Silica∧(if w64 (s.Silica-w64 (s.Mass*r.Silica))>0 then w64 (s.Silica-w64 (s.Mass*r.Silica)) else 0)=s.Silica-min (s.Mass*r.Silica) s.Silica:=fun _=>by
  rw[Qbg (x:=s.Mass*r.Silica) (by omega) (by omega),Qbg (x:=s.Silica-s.Mass*r.Silica) (by omega) (by omega)]
  constructor
  ·rw[Qbg]<;>(repeat split)<;>omega
  ·split<;>omega
 have none0:=none0 0
 rcases hc with ⟨a,b⟩ |⟨a,b,c,d⟩ |⟨a,b,c,d,e,g1,g2⟩
 ·rw[b,if_pos rfl,decide_eq_false (show ¬s.Heat-s.Mass*r.Liquid>0 by omega)]
  simp only[cond_false,show decide ((0:Int)>0)=false from rfl]
  have k:(bif (0:Int)==s.Mass then(some ⟨⟨s.Mass,s.Heat,min (s.Mass*r.Silica) s.Silica,s.Gas⟩,⟨0,0,0,0⟩,0,0⟩:Option Qe2) else none)=(bif (0:Int)==s.Mass then(some ⟨⟨s.Mass,s.Heat,min (s.Mass*r.Silica) s.Silica,s.Gas⟩,⟨0,0,0,0⟩,0,0⟩:Option Qe2) else none):=rfl
  rw[none0.1,none0.2]
  have:(if 0<s.Mass then max (s.Heat-s.Mass*r.Liquid) 0 else 0)=0:=by split<;>omega
  rw[this]
  cases (0:Int)==s.Mass<;>rfl
 ·rw[decide_eq_true (show s.Heat-s.Mass*r.Liquid>0 from a),decide_eq_true (show s.Heat≥s.Mass*r.Vapour from b),c,if_neg (show ¬s.Mass=0 by omega),if_pos rfl]
  simp only[cond_true,beq_self_eq_true,decide_eq_true (show s.Mass>0 from d)]
 ·rw[decide_eq_true (show s.Heat-s.Mass*r.Liquid>0 from a),decide_eq_false (show ¬s.Heat≥s.Mass*r.Vapour by omega),←c]
  generalize hm:stm r s=m at *
  rw[Qbg (x:=m) (by omega) (by omega),show(m==s.Mass)=false by simp;omega]
  simp only[cond_true,cond_false]
  by_cases z:m=0
  ·subst z
   simp only[show decide ((0:Int)>0)=false from rfl,cond_false,if_true]
   rw[none0.1,none0.2,if_pos (show 0<s.Mass from e)]
   congr 2
   omega
  ·rw[decide_eq_true (show m>0 by omega),if_neg z,if_neg (show ¬m=s.Mass by omega)]
   have k1:=bdp d (show m≤1000000 by omega) (show 0≤r.Vapour by omega) v1 (by omega)
   have k2:=bdp (show 0≤s.Mass-m by omega) (show s.Mass-m≤1000000 by omega) s0 s1 (by omega)
   have k3:=bdp (show 0≤s.Mass-m by omega) (show s.Mass-m≤1000000 by omega) l0 l1 (by omega)
   simp only[cond_true]
   rw[Qbg (x:=s.Mass-m) (by omega) (by omega),Qbg (x:=m*r.Vapour) (by omega) (by omega),Qbg (x:=s.Heat-m*r.Vapour) (by omega) (by omega),Qbg (x:=(s.Mass-m)*r.Silica) (by omega) (by omega),Qbg (x:=(s.Mass-m)*r.Liquid) (by omega) (by omega),Qbg (x:=s.Heat-m*r.Vapour-(s.Mass-m)*r.Liquid) (by omega) (by omega),Qbg (x:=s.Silica-(s.Mass-m)*r.Silica) (by omega) (by omega)]
   have j1:w64 (s.Silica-(if s.Silica-(s.Mass-m)*r.Silica>0 then s.Silica-(s.Mass-m)*r.Silica else 0))=min ((s.Mass-m)*r.Silica) s.Silica:=by
    rw[Qbg]<;>(repeat split)<;>omega
   have j2:(if s.Silica-(s.Mass-m)*r.Silica>0 then s.Silica-(s.Mass-m)*r.Silica else 0)=s.Silica-min ((s.Mass-m)*r.Silica) s.Silica:=by split<;>omega
   rw[j1,j2]
end
section
open Go.RowKit
theorem Q07 (a b:Int):w64 (w64 a-b)=w64 (a-b):=by
 unfold w64
 rw[IntKind.wrap_i64,IntKind.wrap_i64,IntKind.wrap_i64]
 omega
theorem Zb8 (N:Nat) (l:List Qaa) (k:Int×Int×Int×Int→Option Qaa) (hl:l.length≤1000000):∀(n i:Nat) (a b c d:Int),(l.drop i).length<n →
  Qfy N l k n i (w64 a) (w64 b) (w64 c) (w64 d)=k (w64 (a+(totS (l.drop i)).Mass),w64 (b+(totS (l.drop i)).Heat),w64 (c+(totS (l.drop i)).Silica),w64 (d+(totS (l.drop i)).Gas)):=by
 intro n
 induction n with
 |zero=>intro i _ _ _ _ h;cases h
 |succ n ih=>
  intro i a b c d h
  rw[Qfy]
  cases hd:l.drop i with
  |nil=>
   have:=Qbs hd
   simp[show ¬((i:Int)<l.length) from by omega,totS]
  |cons x q=>
   obtain⟨hg,hd',hlt⟩:=Qbf hd
   simp only[dlI hlt,cond_true,Qbu hg,Option.bind_some,Qou]
   rw[w64S (i:=i) (by omega),ih (i+1) _ _ _ _ (dlt hd hd' h),hd']
   simp only[totS,List.map_cons,List.sum_cons,Int.add_assoc]
theorem Q3u {N:Nat}{l:List Qaa}(hl:l.length≤1000) (hN:1001≤N):Qio N l=some (totW l):=by
 unfold Qio
 simp only[Qbc]
 have:=Zb8 N l (fun x=>match x with |(y1,y2,y3,y4)=>some (⟨y1,y2,y3,y4⟩:Qaa)) (by omega) N 0 0 0 0 0 (by simp;omega)
 rw[Qy3,List.drop_zero] at this
 refine this.trans ?_
 simp[totW]
section
variable {N : Nat} {s : Qaa} {ws : List Int} (hs : StrV s) (h : WtsV ws) (hN : 1001 ≤ N)
include h in
theorem Q3n (k:Int→Option (List Qaa×Qht)):∀(n i:Nat) (a:Int),(ws.drop i).length<n→0≤a→a≤1000*i→Qeu N ws k n a i=k (a+(ws.drop i).sum):=by
 intro n
 induction n with
 |zero=>intro i _ h;cases h
 |succ n ih=>
  intro i a hn s0 s1
  rw[Qeu]
  cases hd:ws.drop i with
  |nil=>
   have:=Qbs hd
   simp[show ¬((i:Int)<ws.length) from by omega]
  |cons x l=>
   obtain⟨hg,hd',hlt⟩:=Qbf hd
   have ha:=h.w x (List.mem_of_getElem? hg)
   have:=h.l2
   simp only[dlI hlt,cond_true,Qbu hg,Option.bind_some,List.sum_cons]
   rw[Qbg (x:=(i:Int)+1) (by omega) (by omega),Qbg (x:=a+x) (by omega) (by omega),show(i:Int)+1=((i+1:Nat):Int) by omega,ih (i+1) (a+x) (by rw[hd'];rw[hd] at hn;simp at hn;omega) (by omega) (by omega),hd',Int.add_assoc]
include hs h in
theorem Q87 (k:Int×List Int→Option (List Qaa×Qht)):∀(n i:Nat) (r:Int) (o:List Int),(ws.drop i).length<n→i≤ws.length→o.length=ws.length-i→-1000000*(i:Int)≤r→r≤1000000 →
  Qev N s ws ws.sum k n r i (((ws.take i).map fun w=>s.Mass*w/ws.sum)++o)=k (r-((ws.drop i).map fun w=>s.Mass*w/ws.sum).sum,Qoq s.Mass ws):=by
 intro n
 induction n with
 |zero=>intro i _ _ h;cases h
 |succ n ih=>
  intro i r o hn hi ho r0 r1
  rw[Qev]
  cases hd:ws.drop i with
  |nil=>
   have:=Qbs hd
   have e:o=[]:=List.length_eq_zero_iff.1 (by omega)
   simp[show ¬((i:Int)<ws.length) from by omega,e,List.take_of_length_le this,Qoq]
  |cons a l=>
   obtain⟨hg,hd',hlt⟩:=Qbf hd
   have ha:=h.w a (List.mem_of_getElem? hg)
   have hl2:=h.l2
   have h0:=hs.m0
   have h1:=hs.m1
   obtain⟨p0,p1⟩:=h.sum
   obtain⟨x,o',rfl⟩:∃x o',o=x::o':=by
    cases o with
    |nil=>simp at ho;omega
    |cons x o'=>exact⟨x,o',rfl⟩
   have hb:=Qsd h h0 (s.Mass*a/ws.sum) (List.mem_map.2 ⟨a,List.mem_of_getElem? hg,rfl⟩)
   have hp:=bdp h0 h1 ha.1 ha.2 (by omega)
   have hlt':((ws.take i).map fun w=>s.Mass*w/ws.sum).length=i:=by simp;omega
   have e2:∀y,(((ws.take i).map fun w=>s.Mass*w/ws.sum)++y::o')[i]? = some y:=fun y=>by rw[List.getElem?_append_right (by omega),hlt'];simp
   have e3:(((ws.take i).map fun w=>s.Mass*w/ws.sum)++x::o').set i (s.Mass*a/ws.sum)=((ws.take i).map fun w=>s.Mass*w/ws.sum)++(s.Mass*a/ws.sum)::o':=by
    rw[List.set_append_right _ _ (by omega),hlt',Nat.sub_self,List.set_cons_zero]
   have e5:((ws.take i).map fun w=>s.Mass*w/ws.sum)++(s.Mass*a/ws.sum)::o'=((ws.take (i+1)).map fun w=>s.Mass*w/ws.sum)++o':=by
    rw[List.take_add_one,hg];simp
   have e4:((i:Int):Int).toNat=i:=by omega
   have c1:(decide ((0:Int)≤(i:Int))&&decide (i<(ws.length:Int).toNat))=true:=by simp;omega
   have ev:w64 ((w64 (s.Mass*a)).tdiv ws.sum)=s.Mass*a/ws.sum:=by
    rw[Qbg (x:=s.Mass*a) (by omega) (by omega),Int.tdiv_eq_ediv_of_nonneg hp.1,Qbg (by omega) (by omega)]
   simp only[dlI hlt,cond_true,Qbu hg,Option.bind_some,chk,show(ws.sum != 0)=true from by rw[bne_iff_ne];omega,e4,c1,e2,ev,e3]
   rw[Qbg (x:=(i:Int)+1) (by omega) (by omega),Qbg (x:=r-s.Mass*a/ws.sum) (by omega) (by omega),show(i:Int)+1=((i+1:Nat):Int) by omega,e5,ih (i+1) _ o' (by rw[hd'];rw[hd] at hn;simp at hn;omega) (by omega) (by simp at ho;omega) (by omega) (by omega),hd',List.map_cons,List.sum_cons]
   congr 2
   omega
theorem Zjb (key:Int→Int) (ls:List Int) (mk:List Bool) (d:Nat):-1≤Qmo key ls mk d∧Qmo key ls mk d<d:=by
 rcases Qtg key ls mk d with ⟨_,e⟩ |⟨b,hb,e,_⟩<;>rw[e]<;>omega
include hs h in
theorem Zex (mk:List Bool) (hm:mk.length=ws.length) (k:Int→Option (List Qaa×Qht)):∀(n i:Nat),ws.length-i<n→i≤ws.length →
  Qc0 N s ws ws.sum mk k n (Qmo (rkey s.Mass ws.sum) ws mk i) i=k (Qmo (rkey s.Mass ws.sum) ws mk ws.length):=by
 intro n
 induction n with
 |zero=>intro i h;cases h
 |succ n ih=>
  intro i hn hi
  have hl2:=h.l2
  have h0:=hs.m0
  have h1:=hs.m1
  obtain⟨p0,p1⟩:=h.sum
  rw[Qc0]
  by_cases hlt:i<ws.length
  ·have hgm:mk[i]? = some (mk.getD i false):=by rw[List.getD_eq_getElem?_getD,List.getElem?_eq_getElem (by omega)];rfl
   have hgw:∀j:Nat,j<ws.length→ws[j]? = some (ws.getD j 0):=fun j hj=>by rw[List.getD_eq_getElem?_getD,List.getElem?_eq_getElem hj];rfl
   have c1:(decide ((0:Int)≤(i:Int))&&decide (i<ws.length))=true:=by simp;omega
   have hih:=ih (i+1) (by omega) hlt
   have hrk:∀x∈ws,(w64 (s.Mass*x)).tmod ws.sum=rkey s.Mass ws.sum x:=fun x hx=>by
    have hx':=h.w x hx
    have hp:=bdp h0 h1 hx'.1 hx'.2 (by omega)
    rw[Qbg (by omega) (by omega),Int.tmod_eq_emod_of_nonneg hp.1]
    rfl
   simp only[show decide ((i:Int)<(ws.length:Int))=true from by simpa using hlt,cond_true,chk,Int.toNat_natCast,c1,hgm,Option.bind_some]
   rw[w64S (i:=i) (by omega)]
   rw[Qmo] at hih
   cases hmk:mk.getD i false with
   |true=>
    rw[if_neg (by rw[hmk];simp)] at hih
    simp only[Bool.not_true,cond_false]
    exact hih
   |false=>
    simp only[Bool.not_false,cond_true]
    by_cases hb:Qmo (rkey s.Mass ws.sum) ws mk i<0
    ·rw[if_pos ⟨hmk,.inl hb⟩] at hih
     rw[decide_eq_true hb,cond_true]
     exact hih
    ·have hbb:=Zjb (rkey s.Mass ws.sum) ws mk i
     rw[decide_eq_false hb,cond_false]
     have g1:=hgw i hlt
     have g2:=hgw (Qmo (rkey s.Mass ws.sum) ws mk i).toNat (by omega)
     have g2':getI ws (Qmo (rkey s.Mass ws.sum) ws mk i)=some (ws.getD (Qmo (rkey s.Mass ws.sum) ws mk i).toNat 0):=by
      unfold getI;rw[if_pos (by omega),g2]
     simp only[Qbu g1,g2',Option.bind_some,show(ws.sum != 0)=true from by rw[bne_iff_ne];omega,cond_true,hrk _ (List.mem_of_getElem? g1),hrk _ (List.mem_of_getElem? g2)]
     by_cases hc:rkey s.Mass ws.sum (ws.getD i 0)>rkey s.Mass ws.sum (ws.getD (Qmo (rkey s.Mass ws.sum) ws mk i).toNat 0)
     ·rw[if_pos ⟨hmk,.inr (by omega)⟩] at hih
      rw[decide_eq_true hc,cond_true]
      exact hih
     ·rw[if_neg (fun hh=>hh.2.elim hb (fun h3=>hc (by omega)))] at hih
      rw[decide_eq_false hc,cond_false]
      exact hih
  ·have e:i=ws.length:=by omega
   subst e
   rw[show decide ((ws.length:Int)<(ws.length:Int))=false by simp,cond_false]
include hs h hN in
theorem Q8o {L:List Int}(hp:L.Perm (ixs ws.length)) (hL:L.Pairwise (Qld (rkey s.Mass ws.sum) ws)) (k:List Int→Option (List Qaa×Qht)):∀(n j q:Nat) (o:List Int),j<n→q+j≤L.length→o.length=ws.length→(∀x∈o,0≤x∧x≤1000000+q) →
  Qew N s ws ws.sum k n j o ((L.take q).foldl mark (List.replicate ws.length false))=k (((L.drop q).take j).foldl bump o):=by
 intro n
 induction n with
 |zero=>intro j q o h;cases h
 |succ n ih=>
  intro j q o hn hq ho hob
  have hlen:=hp.length_eq
  rw[Qit] at hlen
  have hl2:=h.l2
  rw[Qew]
  cases j with
  |zero=>simp
  |succ j=>
   have hr:∀x∈L,0≤x∧x<ws.length:=fun x hx=>Qqv.1 (hp.mem_iff.1 hx)
   have hml:((L.take q).foldl mark (List.replicate ws.length false)).length=ws.length:=by rw[Q14];simp
   have hb:Qmo (rkey s.Mass ws.sum) ws ((L.take q).foldl mark (List.replicate ws.length false)) ws.length=L[q]'(by omega):=Qx7 hL (fun i hi=>hp.mem_iff.2 (Qqv.2 ⟨by omega,by omega⟩)) hr (fun i hi=>Qxy hr i hi) (by omega)
   have hbl:=Zex (N:=N) hs h _ hml
   simp only[Qbc,show decide (((j+1:Nat):Int)>0)=true from decide_eq_true (by omega),cond_true]
   have:=fun k=>hbl k N 0 (by omega) (Nat.zero_le _)
   rw[show Qmo (rkey s.Mass ws.sum) ws ((L.take q).foldl mark (List.replicate ws.length false)) 0=-1 from rfl] at this
   refine(this _).trans ?_
   rw[hb]
   obtain⟨x0,x1⟩:=hr (L[q]'(by omega)) (List.getElem_mem _)
   generalize hz:L[q]'(by omega)=z at x0 x1
   have c1:(decide (0≤z)&&decide (z.toNat<(ws.length:Int).toNat))=true:=by simp;omega
   have g1:∃b,((L.take q).foldl mark (List.replicate ws.length false))[z.toNat]? = some b:=⟨_,List.getElem?_eq_getElem (by omega)⟩
   obtain⟨b,g1⟩:=g1
   have g2:o[z.toNat]? = some (o.getD z.toNat 0):=by rw[List.getD_eq_getElem?_getD,List.getElem?_eq_getElem (by omega)];rfl
   have hxb:=hob _ (List.mem_of_getElem? g2)
   simp only[chk,c1,cond_true,g1,g2,Option.bind_some]
   rw[Qbg (x:=((j+1:Nat):Int)-1) (by omega) (by omega),Qbg (x:=o.getD z.toNat 0+1) (by omega) (by omega),show(((j+1:Nat):Int)-1)=(j:Int) by omega]
   have ht:mark ((L.take q).foldl mark (List.replicate ws.length false)) z=(L.take (q+1)).foldl mark (List.replicate ws.length false):=by
    rw[List.take_add_one,List.getElem?_eq_getElem (by omega),hz,List.foldl_append]
    rfl
   have hih:=ih j (q+1) (bump o z) (by omega) (by omega) (by rw[Qkk];exact ho) (fun y hy=>by
    rcases List.mem_or_eq_of_mem_set hy with hy |rfl
    ·have:=hob y hy;omega
    ·omega)
   rw[←ht] at hih
   refine hih.trans ?_
   rw[List.drop_eq_getElem_cons (show q<L.length by omega),hz,List.take_succ_cons,List.foldl_cons]
include hs in
theorem Qzm {n m:Int}(hn:0≤n) (hn':n≤10000000000) (h0:0≤m) (h1:m≤s.Mass):Qi7 N n m s.Mass=some (n*m/mx s):=by
 have hM:=hs.m1
 have hM0:=hs.m0
 have hp:=bdp hn hn' h0 (show m≤1000000 by omega) (by omega)
 have hb:=Qvy hM0 h0 h1 hn
 unfold Qi7
 by_cases hz:s.Mass=0
 ·have hm:m=0:=by omega
  rw[hz,hm,Int.mul_zero,Int.zero_ediv];rfl
 ·have hx:mx s=s.Mass:=by unfold mx;split<;>omega
  rw[hx] at hb ⊢
  rw[show(s.Mass==0)=false by simpa using hz,cond_false,Qbg (x:=n*m) (by omega) (by omega),Int.tdiv_eq_ediv_of_nonneg hp.1,Qbg (by omega) (by omega)]
  rw[show(s.Mass != 0)=true by simpa using hz]
  rfl
include hs h in
theorem Q37 (k:List Qaa×Int×Int×Int→Option (List Qaa×Qht)) (l:List Int) (hl:l.length=ws.length) (hb:∀m∈l,0≤m∧m≤s.Mass):∀(n i:Nat) (acc:List Qaa) (a b c:Int),(l.drop i).length<n→acc.length=i →
  Qex N s ws l k n acc i (w64 a) (w64 b) (w64 c)=k (acc++(l.drop i).map (Qs4 s),w64 (a-(totS ((l.drop i).map (Qs4 s))).Heat),w64 (b-(totS ((l.drop i).map (Qs4 s))).Silica),w64 (c-(totS ((l.drop i).map (Qs4 s))).Gas)):=by
 intro n
 induction n with
 |zero=>intro i _ _ _ _ h;cases h
 |succ n ih=>
  intro i acc a b c hn ha
  have hl2:=h.l2
  rw[Qex]
  cases hd:l.drop i with
  |nil=>
   have:=Qbs hd
   simp[show ¬((i:Int)<ws.length) from by omega,totS]
  |cons m q=>
   obtain⟨hg,hd',hlt⟩:=Qbf hd
   obtain⟨m0,m1⟩:=hb m (List.mem_of_getElem? hg)
   have a1:=hs.m1
   have c1:(decide ((0:Int)≤(i:Int))&&decide (i<ws.length))=true:=by simp;omega
   simp only[show decide ((i:Int)<ws.length)=true from by simp;omega,cond_true,chk,Int.toNat_natCast,c1,hg,Option.bind_some,Qzm (N:=N) hs hs.h0 (by have:=hs.h1;omega) m0 m1,Qzm (N:=N) hs hs.s0 (by have:=hs.s1;omega) m0 m1,Qzm (N:=N) hs hs.g0 (by have:=hs.g1;omega) m0 m1,Q07]
   have hc:decide ((acc.length+[(⟨m,s.Heat*m/mx s,s.Silica*m/mx s,s.Gas*m/mx s⟩:Qaa)].length)*32≤140737488355328)=true:=by simp;omega
   rw[hc,cond_true,w64S (i:=i) (by omega),
    ih (i+1) _ _ _ _ (by rw[hd'];rw[hd] at hn;simp at hn;omega) (by simp[ha]),hd',List.append_assoc,List.map_cons,Qm9]
   simp only[Qs4,Int.sub_sub]
   rfl
include hs h hN in
theorem Q1g:Qib N s ws=some (Qhg s ws,Qj2 s ws):=by
 have hl1:=h.l1
 have hl2:=h.l2
 have h0:=hs.m0
 have h1:=hs.m1
 obtain⟨L,hp,hL⟩:=Qvs h h0 h1
 have hlen:=hp.length_eq
 rw[Qit] at hlen
 have hb:=Qzu h h0
 unfold Qib
 simp only[Qbc]
 refine(Q3n h _ N 0 0 (by simp;omega) (by omega) (by omega)).trans ?_
 rw[List.drop_zero,Int.zero_add]
 simp only[chk]
 rw[show(decide ((0:Int)≤(ws.length:Int))&&decide (8*(ws.length:Int)≤281474976710656)&&decide ((ws.length:Int)≤9223372036854775807))=true from by simp;omega,cond_true,show(decide ((0:Int)≤(ws.length:Int))&&decide (1*(ws.length:Int)≤281474976710656)&&decide ((ws.length:Int)≤9223372036854775807))=true from by simp;omega]
 simp only[cond_true]
 have eo:=fun k=>Q87 (N:=N) hs h k N 0 s.Mass (List.replicate (ws.length:Int).toNat 0) (by simp;omega) (by omega) (by simp) (by omega) h1
 simp only[List.take_zero,List.map_nil,List.nil_append,List.drop_zero] at eo
 refine(eo _).trans ?_
 dsimp only
 have hL2:s.Mass-(ws.map fun w=>s.Mass*w/ws.sum).sum=((Qoo s.Mass ws).toNat:Int):=by
  have:s.Mass-(ws.map fun w=>s.Mass*w/ws.sum).sum=Qoo s.Mass ws:=rfl
  omega
 rw[hL2]
 have hpk:=fun k=>Q8o (N:=N) hs h hN hp hL k N (Qoo s.Mass ws).toNat 0 (Qoq s.Mass ws) (by omega) (by omega) (Qj8 _ _) (fun x hx=>by have:=Qsd h h0 x hx;omega)
 simp only[List.take_zero,List.foldl_nil,List.drop_zero] at hpk
 rw[show(ws.length:Int).toNat=ws.length by omega]
 refine(hpk _).trans ?_
 have hm:(L.take (Qoo s.Mass ws).toNat).foldl bump (Qoq s.Mass ws)=Qh9 s.Mass ws:=by
  rw[Qh9,Qny h h0 hp hL]
 rw[hm]
 have hK:=Qji hs h
 obtain⟨_,k1,k2,k3,k4,k5,k6,k7⟩:=hK
 have v:=Qov (Qji hs h).v
 have:=v.h0
 have:=v.s0
 have:=v.g0
 have g1:=hs.h1
 have g2:=hs.s1
 have g3:=hs.g1
 have g4:=hs.h0
 have g5:=hs.s0
 have g6:=hs.g0
 have hpl:=fun k=>Q37 (N:=N) hs h k (Qh9 s.Mass ws) (Qhd _ _) (Qs7 h h0 h1) N 0 [] s.Heat s.Silica s.Gas (by rw[List.drop_zero,Qhd];omega) rfl
 rw[Qbg (x:=s.Heat) (by omega) (by omega),Qbg (x:=s.Silica) (by omega) (by omega),Qbg (x:=s.Gas) (by omega) (by omega)] at hpl
 refine(hpl _).trans ?_
 rw[List.drop_zero,List.nil_append]
 have e:(Qh9 s.Mass ws).map (Qs4 s)=Qhg s ws:=rfl
 rw[e]
 unfold Qj2 at *
 dsimp only at *
 rw[Qbg (x:=s.Heat-_) (by omega) (by omega),Qbg (x:=s.Silica-_) (by omega) (by omega),Qbg (x:=s.Gas-_) (by omega) (by omega)]
end
end
section
open Go.RowKit
theorem Q8g (N:Nat) (s:List Int) (k:Unit→Option Bool) (hl:s.length≤1000):∀(m i:Nat),(s.drop i).length<m →
  Qc9 N k s m i=bif (s.drop i).all (fun x=>btw x 0 1000000000000) then k () else some false:=by
 intro m
 induction m with
 |zero=>intro i h;cases h
 |succ m ih=>
  intro i h
  rw[Qc9]
  cases hd:s.drop i with
  |nil=>
   have:=Qbs hd
   simp[show ¬((i:Int)<s.length) from by omega]
  |cons x l=>
   obtain⟨hg,hd',hlt⟩:=Qbf hd
   simp only[dlI hlt,cond_true,Qbu hg,Option.bind_some,Q4b,List.all_cons]
   cases btw x 0 1000000000000 with
   |false=>rfl
   |true=>rw[Bool.not_true,cond_false,w64S (i:=i) (by omega),ih (i+1) (dlt hd hd' h),hd',Bool.true_and]
theorem Q8j {N:Nat}{n:GNet}{s:List Int}(hl:s.length≤1000) (hN:1001≤N):Qhl N n s=some (stB n s):=by
 unfold Qhl stB
 simp only[Qbc]
 have:=Q8g N s (fun _=>some ((s.length:Int)==(n.Elements.length:Int))) hl N 0 (by simp;omega)
 rw[List.drop_zero] at this
 refine this.trans ?_
 have e:((s.length:Int)==(n.Elements.length:Int))=decide (s.length=n.Elements.length):=by
  by_cases h:s.length=n.Elements.length
  ·rw[h];simp
  ·rw[decide_eq_false h,beq_eq_false_iff_ne];omega
 rw[e]
 cases s.all fun x=>btw x 0 1000000000000<;>simp
theorem Zca (N:Nat) (l:List Qaa) (k:Unit→Option Bool) (hl:l.length≤1000):∀(m i:Nat),(l.drop i).length<m →
  Qdt N l k m i=bif (l.drop i).all strB then k () else some false:=by
 intro m
 induction m with
 |zero=>intro i h;cases h
 |succ m ih=>
  intro i h
  rw[Qdt]
  cases hd:l.drop i with
  |nil=>
   have:=Qbs hd
   simp[show ¬((i:Int)<l.length) from by omega]
  |cons x q=>
   obtain⟨hg,hd',hlt⟩:=Qbf hd
   simp only[dlI hlt,cond_true,Qbu hg,Option.bind_some,Zcr,List.all_cons]
   cases strB x with
   |false=>rfl
   |true=>rw[Bool.not_true,cond_false,w64S (i:=i) (by omega),ih (i+1) (dlt hd hd' h),hd',Bool.true_and]
theorem Zgp {N:Nat}{l:List Qaa}(hl:l.length≤1000) (hN:1001≤N):Qiz N l=some (l.all strB):=by
 unfold Qiz
 simp only[Qbc]
 refine(Zca N l _ hl N 0 (by simp;omega)).trans ?_
 rw[List.drop_zero]
 cases l.all strB<;>rfl
theorem Q80 (N:Nat) (n:GNet) (c:Int) (k:Int→Option Int) (hl:n.Elements.length≤1000):∀(m i:Nat) (a:Int),(n.Elements.drop i).length<m→0≤a→a≤i →
  Qcz N n c k m a i=k (a+(((n.Elements.drop i).filter fun x=>decide (x.Kind=c)).length:Int)):=by
 intro m
 induction m with
 |zero=>intro i _ h;cases h
 |succ m ih=>
  intro i a h a0 a1
  rw[Qcz]
  cases hd:n.Elements.drop i with
  |nil=>
   have:=Qbs hd
   simp[show ¬((i:Int)<n.Elements.length) from by omega]
  |cons x q=>
   obtain⟨hg,hd',hlt⟩:=Qbf hd
   simp only[dlI hlt,cond_true,Qbu hg,Option.bind_some]
   rw[w64S (i:=i) (by omega),List.filter_cons]
   by_cases hk:x.Kind=c
   ·rw[show(x.Kind==c)=true by simpa using hk,cond_true,Qbg (x:=a+1) (by omega) (by omega),ih (i+1) _ (dlt hd hd' h) (by omega) (by omega),hd',if_pos (by simpa using hk),List.length_cons]
    congr 1
    omega
   ·rw[show(x.Kind==c)=false by simpa using hk,cond_false,ih (i+1) _ (dlt hd hd' h) (by omega) (by omega),hd',if_neg (by simpa using hk)]
def cntK (n:GNet) (c:Int):Nat:=(n.Elements.filter fun x=>decide (x.Kind=c)).length
theorem Qup {N:Nat}{n:GNet}(c:Int) (hl:n.Elements.length≤1000) (hN:1001≤N):Qgb N n c=some (cntK n c:Int):=by
 unfold Qgb
 simp only[Qbc]
 refine(Q80 N n c _ hl N 0 0 (by simp;omega) (Int.le_refl _) (by simp)).trans ?_
 rw[List.drop_zero,Int.zero_add]
 rfl
theorem Zep (n:GNet):cntK n 1=wcn n n.Elements.length:=by unfold cntK wcn;rw[List.take_length]
end
section
open Go.RowKit
theorem Qr0 {κ β:Type}{k:κ}{f:κ→Option β}{r:Option β}(h:∀k',k'=k→f k'=r):Qbc k f=r:=by
 rw[Qbc]
 exact h k rfl
theorem Q74 (N:Nat) {x:Qaf}(hx:Qij x=true) {d:Int}(h0:0≤d) (h1:d≤9000000000000000000):Qk5 N x d=some (widI x d):=by
 obtain⟨a,b,c,e,f,g,_⟩:=Zkw hx h0 h1
 unfold Qk5 widI
 rw[a,b,f,g]
 rfl
section
variable {N : Nat} {n : GNet} (hs : Qik n) (hN : 1001 ≤ N) (hv : NetV n) {ws : List Qaa} (hf : FedV n ws) {i : Nat} {o : List (List Qaa)} {ls : List Qa1} (hI : InvT n ws i o ls) {x : Qaf} (hx : n.Elements[i]? = some x)
include hv hI hx in
theorem Q8w (hfr:x.From.length≤25) (k:List Qaa×List (List Qaa)×List Qa1×List Int→Option (Qe4×Int×Int)) (ss:List Int):∀(m j:Nat) (acc:List Qaa),(x.From.drop j).length<m→acc.length≤100+j→j≤25 →
  Qgl N x k m acc j o ls ss=k (acc++(x.From.drop j).map (Qg6 o),o,ls,ss):=by
 intro m
 induction m with
 |zero=>intro j _ h;cases h
 |succ m ih=>
  intro j acc h ha hj
  rw[Qgl]
  cases hd:x.From.drop j with
  |nil=>
   have:=Qbs hd
   simp[show ¬((j:Int)<x.From.length) from by omega]
  |cons p l=>
   obtain⟨hg,hd',hlt⟩:=Qbf hd
   have hpm:=List.mem_of_getElem? hg
   obtain⟨p1,_,_,_,p4,_,_⟩:=hv.port i x p hx hpm
   obtain⟨_,_,r,hr,hr2⟩:=Qpo hv hI hx hpm
   have g1:getI o p.Element=some r:=by unfold getI;rw[if_pos p1,hr]
   have g2:getI r p.Outlet=some (Qg6 o p):=by unfold getI;rw[if_pos p4,hr2]
   simp only[dlI hlt,cond_true,chk,Qbu hg,Option.bind_some,g1,g2]
   rw[show decide ((([]:List Qaa).length+acc.length)*32≤140737488355328)=true by simp;omega,show decide (1≤([Qg6 o p]:List Qaa).length)=true from rfl,show decide (((([]:List Qaa)++acc).length+(([Qg6 o p]:List Qaa).take 1).length)*32≤140737488355328)=true by simp;omega]
   simp only[cond_true]
   rw[w64S (i:=j) (by omega),ih (j+1) _ (dlt hd hd' h) (by simp;omega) (by omega),hd']
   simp
end
section
variable {N : Nat} {n : GNet} (hs : Qik n) (hN : 1001 ≤ N) (hv : NetV n) {ws : List Qaa} (hf : FedV n ws) {st : List Int} (hst : StV n st)
theorem Q40 {α:Type}(a:List α) (x:α) (w:Nat) (h:a.length≤1000) (hw:w≤1000):decide ((a.length+[x].length)*w≤140737488355328)=true:=by
 rw[decide_eq_true_eq,List.length_singleton]
 have:(a.length+1)*w≤1001*1000:=Nat.mul_le_mul (by omega) hw
 omega
set_option maxHeartbeats 2000000 in
include hs hN hv hf hst in
theorem Q8l (k:Int×List (List Qaa)×List Qa1×List Int→Option (Qe4×Int×Int)):∀(m i:Nat) (o:List (List Qaa)) (ls:List Qa1) (ss:List Int) (y:Int),(n.Elements.drop i).length<m→i≤n.Elements.length→InvT n ws i o ls→ss.length=i→0≤y→y≤1000000*i →
  Qgm N n st ws k m y (wcn n i:Int) i o ls ss =
  Qug (Qsp n.Table ((n.Elements.drop i).zip (st.drop i)) (ws.drop (wcn n i)) o ls ss y) (fun a=>some (Zmj,0,(a:Int))) (fun r=>k (r.2.2.2,r.1,r.2.1,r.2.2.1)):=by
 intro m
 induction m with
 |zero=>intro i _ _ _ _ h;cases h
 |succ m ih=>
  intro i o ls ss y h hi hI hss hy0 hy1
  have hsl:=Qxq hst
  have e0:=hs.e
  rw[Qgm]
  cases hd:n.Elements.drop i with
  |nil=>
   have:=Qbs hd
   have hi2:i=n.Elements.length:=by omega
   subst hi2
   rw[show decide ((n.Elements.length:Int)<(n.Elements.length:Int))=false by simp,cond_false,show st.drop n.Elements.length=[] from List.drop_of_length_le (by omega)]
   simp[Qsp,Qug]
  |cons x l=>
   obtain⟨hg,hd',hlt⟩:=Qbf hd
   obtain⟨d,hgd,d0,d1⟩:=Zky hst hlt
   have hds:st.drop i=d::st.drop (i+1):=by
    have hi:=(List.getElem?_eq_some_iff.1 hgd).1
    rw[List.drop_eq_getElem_cons hi]
    rw[List.getElem?_eq_getElem hi] at hgd
    cases hgd;rfl
   obtain⟨iv,it⟩:=Zdw hv hf hI hg
   have hxm:=List.mem_of_getElem? hg
   have hx:=hs.x x hxm
   have hA:=Qpg (hv.alone x hxm)
   have hinl:(insE o (ws.drop (wcn n i)) x).length≤100:=by
    unfold insE
    split
    ·rw[List.length_take];omega
    ·rw[List.length_map];omega
   have hwid:=Q74 N (hv.alone x hxm) d0 (show d≤9000000000000000000 by omega)
   have hwl:=Q58 (n:=n) (i:=i+1)
   have hws:=Qnq hg
   have hwn:wcn n n.Elements.length≤18:=by
    unfold wcn
    have:=List.length_filter_le (fun x:Qaf=>decide (x.Kind=1)) (n.Elements.take n.Elements.length)
    rw[List.take_length] at this ⊢
    omega
   have hin:∀(j:Int×List Qaa×List (List Qaa)×List Qa1×List Int→Option (Qe4×Int×Int)),
     (bif (x.Kind==1) then chk (decide (0≤(wcn n i:Int))&&decide ((wcn n i:Int)≤w64 ((wcn n i:Int)+1))&&decide (w64 ((wcn n i:Int)+1)≤(ws.length:Int)))<|j (w64 ((wcn n i:Int)+1),(ws.drop (wcn n i:Int).toNat).take ((w64 ((wcn n i:Int)+1)).toNat-(wcn n i:Int).toNat),o,ls,ss) else j ((wcn n i:Int),[],o,ls,ss)) =
     j ((wcn n (i+1):Int),(if x.Kind=1 then(ws.drop (wcn n i)).take 1 else[]),o,ls,ss):=fun j=>by
    by_cases h1:x.Kind=1
    ·rw[if_pos h1] at hws
     have hlt:wcn n i<ws.length:=by rw[hf.len];omega
     rw[show(x.Kind==1)=true by simpa using h1,cond_true,if_pos h1,Qbg (x:=(wcn n i:Int)+1) (by omega) (by omega),hws]
     simp only[chk]
     rw[show(decide (0≤(wcn n i:Int))&&decide ((wcn n i:Int)≤(wcn n i:Int)+1)&&decide ((wcn n i:Int)+1≤(ws.length:Int)))=true by simp;omega,cond_true,show((wcn n i:Int)).toNat=wcn n i by omega,show((wcn n i:Int)+1).toNat-wcn n i=1 by omega]
     rfl
    ·rw[if_neg h1] at hws
     rw[show(x.Kind==1)=false by simpa using h1,cond_false,if_neg h1,hws]
     rfl
   simp only[dlI hlt,cond_true,Qbu hg,Option.bind_some]
   refine Qr0 fun k25 h25=>?_
   refine Qr0 fun k35 h35=>?_
   refine(hin k35).trans ?_
   rw[h35]
   dsimp only
   refine Qr0 fun k40 h40=>?_
   have hfl:(if x.Kind=1 then(ws.drop (wcn n i)).take 1 else([]:List Qaa)).length≤1:=by
    split
    ·rw[List.length_take];omega
    ·simp
   refine(Q8w (N:=N) hv hI hg hx.1 k40 ss N 0 _ (by simp;omega) (by omega) (by omega)).trans ?_
   have hins:(if x.Kind=1 then(ws.drop (wcn n i)).take 1 else([]:List Qaa))++(x.From.drop 0).map (Qg6 o)=insE o (ws.drop (wcn n i)) x:=by
    unfold insE
    by_cases h1:x.Kind=1
    ·rw[if_pos h1,if_pos h1,hA.well h1];simp
    ·rw[if_neg h1,if_neg h1];simp
   rw[hins,h40]
   dsimp only
   have htot:Qio N (insE o (ws.drop (wcn n i)) x)=some (totS (insE o (ws.drop (wcn n i)) x)):=by rw[Q3u (by omega) hN,Qqg iv (by omega)]
   rw[htot,Option.bind_some,Qbu hgd,Option.bind_some,hwid,Option.bind_some,hds,List.zip_cons_cons,Qsp]
   have hK:=Qz0 hv hf hI hg
   have hI2:=Qzz hv hf hI hg hK
   generalize totS (insE o (ws.drop (wcn n i)) x)=s at *
   by_cases hm:s.Mass>widI x d
   ·rw[if_pos hm,decide_eq_true hm,cond_true,hI.lo]
    rfl
   rw[if_neg hm,decide_eq_false hm,cond_false]
   have hw:ws.drop (wcn n (i+1))=if x.Kind=1 then(ws.drop (wcn n i)).drop 1 else ws.drop (wcn n i):=by
    rw[hws]
    split
    ·rw[List.drop_drop]
    ·rfl
   rw[←hw]
   have hlo:=hI.lo
   have hll:=hI.ll
   have hq:=hK.q
   have hqq:=hK.q0
   have hc0:=hK.c0
   have ht0:=hK.t0
   have ht1:=hK.t1
   have hsq:=it.s1
   have hsm:=it.m1
   have hvs:=(Qov hK.v).s0
   have hih:=ih (i+1) _ _ (ss++[d+(actE n.Table x s).2.1.Scale]) (y+(actE n.Table x s).2.2) (dlt hd hd' h) hlt hI2 (by simp[hss]) (by omega) (by omega)
   rw[hd'] at hih
   have fin:∀(O:List Qaa) (L:Qa1) (Y:Int),(O,L,Y)=actE n.Table x s →
     (chk (decide ((o.length+([O]).length)*24≤140737488355328))<|
      chk (decide (1≤([(⟨L.Heat,L.Silica,L.Gas,L.Scale⟩:Qa1)]).length))<|
      chk (decide ((ls.length+(([(⟨L.Heat,L.Silica,L.Gas,L.Scale⟩:Qa1)]).take 1).length)*32≤140737488355328))<|
      chk (decide ((ss.length+([w64 (d+L.Scale)]).length)*8≤140737488355328))<|
      k25 (y+Y,(wcn n (i+1):Int),o++([O]),ls++(([(⟨L.Heat,L.Silica,L.Gas,L.Scale⟩:Qa1)]).take 1),ss++([w64 (d+L.Scale)]))) =
     Qug (Qsp n.Table (l.zip (st.drop (i+1))) (ws.drop (wcn n (i+1))) (o++[(actE n.Table x s).1]) (ls++[(actE n.Table x s).2.1]) (ss++[d+(actE n.Table x s).2.1.Scale]) (y+(actE n.Table x s).2.2)) (fun a=>some (Zmj,0,(a:Int))) (fun r=>k (r.2.2.2,r.1,r.2.1,r.2.2.1)):=fun O L Y e=>by
    rw[←hih,←e,h25]
    rw[←e] at hq hqq hc0 hvs
    dsimp only at hq hqq hc0 hvs
    dsimp only
    rw[Qbg (x:=d+L.Scale) (by omega) (by omega),w64S (i:=i) (by omega)]
    simp only[chk]
    rw[Q40 o O 24 (by omega) (by omega),show decide (1≤([(⟨L.Heat,L.Silica,L.Gas,L.Scale⟩:Qa1)]).length)=true from rfl,show([(⟨L.Heat,L.Silica,L.Gas,L.Scale⟩:Qa1)]).take 1=[L] from rfl,Q40 ls L 32 (by omega) (by omega),Q40 ss _ 8 (by omega) (by omega)]
    rfl
   by_cases h3:x.Kind=3
   ·have e:actE n.Table x s=([⟨s.Mass,s.Heat-Qn4 x s,s.Silica,s.Gas⟩],⟨Qn4 x s,0,0,0⟩,0):=by unfold actE;rw[if_pos h3]
    have hc:0≤Qn4 x s∧Qn4 x s≤s.Heat:=by
     have:=hA.a3 h3
     have:=it.h0
     unfold Qn4;split<;>omega
    have:=it.h1
    have hcl:(if s.Heat<x.Amount then s.Heat else x.Amount)=Qn4 x s:=rfl
    refine Eq.trans ?_ (fin _ _ _ e.symm)
    rw[show(x.Kind==3)=true by simpa using h3,show(x.Kind==4)=false by rw[h3];rfl,show(x.Kind==5)=false by rw[h3];rfl]
    simp only[Qbc,cond_true,cond_false,hcl,chk,Int.add_zero]
    rw[Qbg (x:=s.Heat-Qn4 x s) (by omega) (by omega)]
    rfl
   by_cases h4:x.Kind=4
   ·have hlv:=hv.level x hxm
    obtain⟨hgr,hrow⟩:=Q6d hv.tab (Qf3.2 hlv)
    have hgr':getI n.Table x.Level=some (Qe3 n.Table x.Level):=hgr
    have hk:=Qz2 (r:=Qe3 n.Table x.Level) hrow it
    have hfr:Qjf N (Qe3 n.Table x.Level) s=some (flG (Qe3 n.Table x.Level) s):=Q33 N hrow it
    have k1:=hk.km
    have k2:=hk.st.m0
    have k3:=hk.wa.m0
    rw[show(x.Kind==3)=false by rw[h4];rfl,show(x.Kind==4)=true by simpa using h4,show(x.Kind==5)=false by rw[h4];rfl]
    simp only[Qbc,cond_true,cond_false,hgr',Option.bind_some,hfr]
    rw[Qbg (x:=y+(flG (Qe3 n.Table x.Level) s).Steam.Mass) (by omega) (by omega)]
    by_cases h0:x.Amount=0
    ·have ha:actE n.Table x s=([(flG (Qe3 n.Table x.Level) s).Steam,(flG (Qe3 n.Table x.Level) s).Water],⟨0,0,0,(flG (Qe3 n.Table x.Level) s).Scale⟩,(flG (Qe3 n.Table x.Level) s).Steam.Mass):=by
      unfold actE
      rw[if_neg h3,if_pos h4,if_pos h0]
     rw[decide_eq_false (show ¬x.Amount>0 by omega),cond_false]
     have:=fin _ _ _ ha.symm
     clear fin hih
     generalize flG (Qe3 n.Table x.Level) s=p at this ⊢
     exact this
    ·have hav:=hA.a4 h4
     have hwt:=Q3p (a:=x.Amount) (by omega) hav.2
     have ha:actE n.Table x s=([totS [(flG (Qe3 n.Table x.Level) s).Steam,(Qhg (flG (Qe3 n.Table x.Level) s).Water [1000-x.Amount,x.Amount]).getD 1 zs],(Qhg (flG (Qe3 n.Table x.Level) s).Water [1000-x.Amount,x.Amount]).getD 0 zs],
      ⟨(Qj2 (flG (Qe3 n.Table x.Level) s).Water [1000-x.Amount,x.Amount]).Heat,(Qj2 (flG (Qe3 n.Table x.Level) s).Water [1000-x.Amount,x.Amount]).Silica,(Qj2 (flG (Qe3 n.Table x.Level) s).Water [1000-x.Amount,x.Amount]).Gas,(flG (Qe3 n.Table x.Level) s).Scale⟩,(flG (Qe3 n.Table x.Level) s).Steam.Mass):=by
      unfold actE
      rw[if_neg h3,if_pos h4,if_neg h0]
     rw[decide_eq_true (show x.Amount>0 by omega),cond_true,Qbg (x:=1000-x.Amount) (by omega) (by omega)]
     have hsh:Qib N (flG (Qe3 n.Table x.Level) s).Water [1000-x.Amount,x.Amount]=_:=Q1g (N:=N) hk.wa hwt hN
     obtain⟨u,v,hp⟩:=Qvc (s:=(flG (Qe3 n.Table x.Level) s).Water) (a:=1000-x.Amount) (b:=x.Amount)
     have hKp:=Qji hk.wa hwt
     rw[hp] at hsh hKp ha
     have htot2:Qio N [(flG (Qe3 n.Table x.Level) s).Steam,v]=some (totS [(flG (Qe3 n.Table x.Level) s).Steam,v]):=by
      rw[Q3u (by simp) hN,Qqg (fun z hz=>by
       simp at hz
       rcases hz with rfl |rfl
       ·exact hk.st
       ·exact hKp.v _ (by simp)) (by simp)]
     refine(congrArg (fun z=>Option.bind z _) hsh).trans ?_
     simp only[Option.bind_some,show getI [u,v] 1=some v from rfl,show getI [u,v] 0=some u from rfl]
     refine(congrArg (fun z=>Option.bind z _) htot2).trans ?_
     have:=fin _ _ _ ha.symm
     clear fin hih
     exact this
   by_cases h5:x.Kind=5
   ·have e:actE n.Table x s=(Qhg s x.Weights,⟨(Qj2 s x.Weights).Heat,(Qj2 s x.Weights).Silica,(Qj2 s x.Weights).Gas,0⟩,0):=by unfold actE;rw[if_neg h3,if_neg h4,if_pos h5]
    have hsh:=Q1g (N:=N) it (hA.w5 h5) hN
    rw[show(x.Kind==3)=false by rw[h5];rfl,show(x.Kind==4)=false by rw[h5];rfl,show(x.Kind==5)=true by simpa using h5]
    simp only[Qbc,cond_true,cond_false,chk,show decide (1≤([s]:List Qaa).length)=true from rfl,hsh,Option.bind_some]
    have:=fin _ _ _ e.symm
    rw[Int.add_zero y] at this
    exact this
   ·have e:actE n.Table x s=([s],⟨0,0,0,0⟩,0):=by unfold actE;rw[if_neg h3,if_neg h4,if_neg h5]
    rw[show(x.Kind==3)=false by simpa using h3,show(x.Kind==4)=false by simpa using h4,show(x.Kind==5)=false by simpa using h5]
    simp only[Qbc,cond_false,chk,show decide (1≤([s]:List Qaa).length)=true from rfl,cond_true]
    have:=fin _ _ _ e.symm
    rw[Int.add_zero y] at this
    exact this
include hs hN hv hf hst in
theorem Q6f:Ql7 N n st ws=some (Qug (Qvd n st ws) (fun a=>(Zmj,0,(a:Int))) (fun r=>(⟨r.1,r.2.1,r.2.2.1⟩,r.2.2.2,-1))):=by
 have e0:=hs.e
 unfold Ql7
 simp only[Qbc]
 have:=Q8l hs hN hv hf hst (fun x=>match x with |(y1,y2,y3,y4)=>some ((⟨y2,y3,y4⟩:Qe4),y1,(-1))) N 0 [] [] [] 0 (by simp;omega) (Nat.zero_le _) (Qwb n ws) rfl (Int.le_refl _) (by simp)
 simp only[List.drop_zero,show wcn n 0=0 from rfl] at this
 refine this.trans ?_
 unfold Qvd
 cases Qsp n.Table (n.Elements.zip st) ws [] [] [] 0<;>rfl
end
end
section
open Go.RowKit
theorem Q63 (i:Nat):∀(r:List Qaa) (j:Nat),Qqy i j r=(List.range r.length).map fun k:Nat=>(((i:Int),((j+k:Nat):Int)),r.getD k zs)
 |[],_=>rfl
 |x::r,j=>by
  rw[Qqy,Q63 i r (j+1),List.length_cons,List.range_succ_eq_map,List.map_cons,List.map_map]
  congr 1
  apply List.map_congr_left
  intro k _
  simp[show j+1+k=j+(k+1) by omega]
theorem Qx2 (O:List (List Qaa)):∀(els:List Qaf) (o pre:List (List Qaa)),O=pre++o→els.length=o.length→(∀(k:Nat) y r,els[k]? = some y→o[k]? = some r→(r.length:Int)=outl y) →
  Qig pre.length o=(Q1p pre.length els).map fun p=>(pq p,Qg6 O p)
 |[],[],_,_,_,_=>rfl
 |x::els,r::o,pre,hO,hl,hr=>by
  have h1:=hr 0 x r rfl rfl
  have ih:=Qx2 O els o (pre++[r]) (by rw[hO];simp) (by simpa using hl) fun k y q hy hq=>hr (k+1) y q (by simpa using hy) (by simpa using hq)
  rw[List.length_append,List.length_singleton] at ih
  rw[Qig,Q1p,List.map_append,ih,Q63,List.map_map,show(outl x).toNat=r.length by omega]
  congr 1
  apply List.map_congr_left
  intro k hk
  have hk':=List.mem_range.1 hk
  have hg:O.getD pre.length []=r:=by rw[hO,List.getD_eq_getElem?_getD,List.getElem?_append_right (Nat.le_refl _),Nat.sub_self];rfl
  simp only[Function.comp,pq,Qg6,Int.toNat_natCast,hg,Nat.zero_add]
 |[],_::_,_,_,h,_=>by simp at h
 |_::_,[],_,_,h,_=>by simp at h
section
variable {n : GNet} (hv : NetV n) {ws : List Qaa} {o : List (List Qaa)} {ls : List Qa1} (hI : InvT n ws n.Elements.length o ls)
include hI
theorem Zc2:Qig 0 o=(Q1p 0 n.Elements).map fun p=>(pq p,Qg6 o p):=Qx2 o n.Elements o [] rfl hI.lo.symm hI.rows
theorem Zm8 {p:Qbn}(hp:p∈Zop n):0≤p.Element∧0≤p.Outlet∧∃r,o[p.Element.toNat]? = some r∧r[p.Outlet.toNat]? = some (Qg6 o p):=by
 have h1:(pq p,Qg6 o p)∈Qig 0 o:=by
  rw[Zc2 hI]
  exact List.mem_map.2 ⟨p,(List.mem_filter.1 hp).1,rfl⟩
 obtain⟨a,b,r,c,d⟩:=Qpa.1 h1
 refine⟨by simpa using a,b,r,?_,d⟩
 rw[show(p.Element-((0:Nat):Int)).toNat=p.Element.toNat by simp] at c
 exact c
end
theorem Q1b (N:Nat) (l:List Qaa) (k:List Qaa→Option (List Qaa)) (hl:l.length≤1000):∀(m i:Nat) (acc:List Qaa),(l.drop i).length<m→acc.length=i→Qdv N l k m acc i=k (acc++l.drop i):=by
 intro m
 induction m with
 |zero=>intro i _ h;cases h
 |succ m ih=>
  intro i acc h ha
  rw[Qdv]
  cases hd:l.drop i with
  |nil=>
   have:=Qbs hd
   simp[show ¬((i:Int)<l.length) from by omega]
  |cons p q=>
   obtain⟨hg,hd',hlt⟩:=Qbf hd
   simp only[dlI hlt,cond_true,Qbu hg,Qlu,Option.bind_some,chk]
   rw[show decide ((acc.length+[p].length)*32≤140737488355328)=true by simp;omega,cond_true,w64S (i:=i) (by omega),
    ih (i+1) _ (dlt hd hd' h) (by simp[ha]),hd',List.append_assoc]
   rfl
theorem Q8d {N:Nat}{l:List Qaa}(hl:l.length≤1000) (hN:1001≤N):Qi2 N l=some l:=by
 unfold Qi2
 simp only[Qbc]
 refine(Q1b N l _ hl N 0 [] (by simp;omega) rfl).trans ?_
 rw[List.drop_zero,List.nil_append]
end
section
open Go.RowKit
theorem Zb1:Qha 2000=some true:=by decide +kernel
end
section
open Go.RowKit
theorem Q2n {N:Nat}{n:GNet}(hs:Qik n) (hN:1001≤N) {ws:List Qaa}(hl:ws.length≤1000):Qh5 N n ws=some (fedI n ws):=by
 have e0:=hs.e
 unfold Qh5 fedI
 simp only[Qbc,Qup 1 (show n.Elements.length≤1000 by omega) hN,Option.bind_some,Zep,Zgp hl hN,Q3u hl hN]
 by_cases h1:ws.length=wcn n n.Elements.length
 ·rw[decide_eq_true h1,show((ws.length:Int) != (wcn n n.Elements.length:Int))=false by rw[bne_eq_false_iff_eq];omega]
  cases ha:ws.all strB with
  |false=>rfl
  |true=>
   have hall:∀s∈ws,StrV s:=fun s h=>Qpj.1 (List.all_eq_true.1 ha s h)
   rw[Qqg hall hl]
   simp only[cond_false,Bool.not_true,Bool.true_and,cond_true]
   by_cases h2:(totS ws).Mass>1000000
   ·rw[decide_eq_true h2,if_pos h2];rfl
   ·rw[decide_eq_false h2,if_neg h2]
    by_cases h3:(totS ws).Gas>1000000000
    ·rw[decide_eq_true h3,if_pos h3];rfl
    ·rw[decide_eq_false h3,if_neg h3];rfl
 ·rw[decide_eq_false h1,show((ws.length:Int) != (wcn n n.Elements.length:Int))=true by rw[bne_iff_ne];omega];rfl
theorem Zdu (N:Nat) (l:List Int) (k:Unit→Option Bool) (hl:l.length≤1000):∀(m i:Nat),(l.drop i).length<m→Qfj N l l k m i=k ():=by
 intro m
 induction m with
 |zero=>intro i h;cases h
 |succ m ih=>
  intro i h
  rw[Qfj]
  cases hd:l.drop i with
  |nil=>
   have:=Qbs hd
   simp[show ¬((i:Int)<l.length) from by omega]
  |cons x q=>
   obtain⟨hg,hd',hlt⟩:=Qbf hd
   simp only[dlI hlt,cond_true,Qbu hg,Option.bind_some,bne_self_eq_false,cond_false]
   rw[w64S (i:=i) (by omega),ih (i+1) (dlt hd hd' h)]
theorem Zne {N:Nat}{l:List Int}(hl:l.length≤1000) (hN:1001≤N):Qkg N l l=some true:=by
 unfold Qkg
 simp only[Qbc,bne_self_eq_false,cond_false]
 exact Zdu N l _ hl N 0 (by simp;omega)
end
section
set_option maxRecDepth 100000
set_option maxHeartbeats 4000000
open Go.RowKit
def Qe6 (N:Nat) (k1:Unit→Option Bool) (p1:List (List Qaa)):Nat→Int→Option Bool
  |0,_=>none
  |n7+1,y5=>
    bif (decide (y5<(p1.length:Int))) then
     (getI p1 y5).bind fun x9=>
     bif (decide ((x9.length:Int)>25)) then
      some false
     else
      Qe6 N k1 p1 n7 (w64 (y5+1))
    else
     k1 ()
def Qlw (N:Nat) (p0:GNet) (p1:List (List Qaa)):Option Bool:=
  Qbc (fun _=>
    (Qly N p0 ([])).bind fun x3=>
    bif x3 then
     some (decide ((p1.length:Int)≤8))
    else
     some false) fun k1:Unit→Option Bool=>
  Qe6 N k1 p1 N 0
def Qu6 (p1:List (List Qaa)):AV:=.dat 1 (p1.map Qag)
def Qxn (p0:GNet):Slot:=.own 2 [[(.dat 5 (p0.Table.map Qap)),(.dat 7 (p0.Elements.map Qae))]]
def Zkr (p0:GNet):AV:=.agg [(.dat 5 (p0.Table.map Qap)),(.dat 7 (p0.Elements.map Qae))]
def Q3k (p0:GNet) (x3:Bool):List (Nat×Rec):=[(1,rp [fu 14,((.tmp 18),(Zkr p0)),((.const (.slice none 0 0)),nilS)] (B x3))]
def Zqn:AV:=.dat 4 (([]:List Qaa).map Qad)
theorem Qzv (N:Nat) (p0:GNet) (p1:List (List Qaa)) (r:Bool) (h:Qlw N p0 p1=some r):Spec prog 39 [(.agg (Qgv p0)),(.dat 1 (p1.map Qag))] [] (B r) []:=by
  refine sA func39 0 fun _ _ _ hq hd0=>?_
  unfold Qlw at h
  refine wxz ?_
  obtain⟨k1,hk_k1,h⟩:=jko h
  refine wjn (τ:=Unit) (fun t=>k1 t=some r) (fun _=>⟨mk 25 [(1,(Qu6 p1)),(2,.ref 0 2 0 0)],[(Qxn p0)]⟩) (fun t h=>?_) ?_
  ·subst hk_k1
   obtain⟨x3,hf2,h⟩:=bno h
   refine hpre (A:=(Q3k p0 x3)) ⟨awk (rd':=(.func 14,(.fn (.func 14) [] []))::[(.tmp 18,(Zkr p0)),((.const (.slice none 0 0)),Zqn)]) ⟨rfl,lrf,rfl,lrf,rfl,Less.nil,tv⟩ (apw Zoo (Qzx N p0 ([]) _ hf2)),tv⟩ fun q1_=>?_
   refine bfe h (fun hb4 h=>?_) fun hb4 h=>?_
   ·refine wx tbk (hcat (Q3k p0 x3) [(2,rp [(.tmp 19,B x3)] (B true)),(4,rp [(.tmp 20,B true),(.tmp 21,(Qu6 p1))] (I ((p1.length:Int))))]) (hap q1_ ⟨asb hb4 (amv rfl),ag_ (alq 1 Qag p1 underlying49),tv⟩)<|Qai ?_
    obtain rfl:=osi h
    exact fend ⟨[(B ((decide ((p1.length:Int)≤8))))],⟨rot,tv⟩,rfl⟩ nll
   ·exact wx tbk (hcat (Q3k p0 x3) [(2,rp [(.tmp 19,B x3)] (B false))]) (hap q1_ ⟨asb hb4 (amv rfl),tv⟩)<|Qai<|frb h
  ·skip
   refine wxz<|Qam ?_
   refine wmr (mto (n:=25) (l':=[(1,(Qu6 p1)),(2,.ref 0 2 0 0),(5,I 0)]) (own':=[(Qxn p0)]) [(1,(Qu6 p1)),(2,.ref 0 2 0 0),(5,I 0)] [0] [(Qxn p0)] hq (pc (rnd Qak) (prr (pw pn))) (qb (lc (rnd Qao) (lc (rnd Qac) ln)) qn)) ?_
   refine Qbl (τ:=Int) (fun n t=>Qe6 N k1 p1 n t=some r) (fun y5=>⟨mk 25 [(1,(Qu6 p1)),(2,.ref 0 2 0 0),(5,I y5)],[(Qxn p0)]⟩) (fun t h=>by rw[Qe6] at h;cases h) (fun n7 ih y5 h=>?_) N (0) h
   rw[Qe6] at h
   skip
   refine wsq<|wx tbk [(2,rp _ _)] ⟨alq 1 Qag p1 underlying49,tv⟩ ?_
   refine bfe h (fun hc8 h=>?_) fun hc8 h=>?_
   ·refine wft hc8<|Qal<|thn<|wsq<|Qam ?_
    obtain⟨x9,hg10,h⟩:=bno h
    obtain⟨hi11,hj12⟩:=gsm hg10
    refine wx tbk [(2,rp _ _),(4,rp _ _)] ⟨aiq underlying49 ti28 Qag hi11 hj12,alq 4 Qad x9 underlying28,tv⟩ ?_
    refine bfe h (fun hc13 h=>?_) fun hc13 h=>?_
    ·exact wft hc13<|wxz<|Qai<|Qar<|Qaj<|Qaj<|Qar<|Qaj<|frb h
    ·exact wfn hc13<|Qal<|bln<|thn<|wxz1<|thn<|arm (mto (n:=25) [(1,(Qu6 p1)),(2,.ref 0 2 0 0),(5,(I (w64 (y5+1))))] [0] [(Qxn p0)] hq (pc (rnd Qak) (prr (pw pn))) (qb (lc (rnd Qao) (lc (rnd Qac) ln)) qn)) (ih (w64 (y5+1)) h)
   ·exact wfn hc8<|Qa6<|Qau<|Qau<|Qa5 rfl<|thn<|⟨(),h,(mto (n:=25) [(1,(Qu6 p1)),(2,.ref 0 2 0 0)] [0] [(Qxn p0)] hq (pc (rnd Qak) (prr pn)) (qb (lc (rnd Qao) (lc (rnd Qac) ln)) qn))⟩
def Qe0 (N:Nat) (p0:List (List Qaa)) (k2:(List (List Qaa))→Option (List (List Qaa))):Nat→(List (List Qaa))→Int→Option (List (List Qaa))
  |0,_,_=>none
  |n7+1,y3,y4=>
    bif (decide (y4<(p0.length:Int))) then
     (getI p0 y4).bind fun x9=>
     (Qi2 N x9).bind fun x14=>
     chk (decide ((y3.length+([x14]).length)*24≤140737488355328))<|
     Qe0 N p0 k2 n7 (y3++([x14])) (w64 (y4+1))
    else
     k2 (y3)
def Qla (N:Nat) (p0:List (List Qaa)):Option (List (List Qaa)):=
  Qbc (fun y1=>
    some y1) fun k2:(List (List Qaa))→Option (List (List Qaa))=>
  Qe0 N p0 k2 N ([]) 0
def Q5s (p0:List (List Qaa)):AV:=.dat 1 (p0.map Qag)
theorem Qv9 (N:Nat) (p0 r:List (List Qaa)) (h:Qla N p0=some r):Spec prog 41 [(.dat 1 (p0.map Qag))] [] (.dat 1 (r.map Qag)) []:=by
  refine sA func41 0 fun _ _ _ hq hd0=>?_
  unfold Qla at h
  refine wxz<|wxz ?_
  obtain⟨k2,hk_k2,h⟩:=jko h
  refine wjn (τ:=(List (List Qaa))) (fun t=>k2 t=some r) (fun y1=>⟨mk 20 [(3,(.acc 0 45 1 (y1.map Qag)))],[.tok]⟩) (fun y1 h=>?_) ?_
  ·subst hk_k2
   refine wxz<|Qai ?_
   obtain rfl:=osi h
   exact fie [(.dat 1 (y1.map Qag))] ⟨Qbz (v:=(.acc 0 45 1 (y1.map Qag))) rot Less.acc,tv⟩
  ·skip
   refine wxz<|Qam ?_
   refine wmr (Mor.trans (Qo9 0 45 1 3 (by kernel_rfl) (by kernel_rfl)) (mto (n:=20) (l':=[(0,(Q5s p0)),(3,(.acc 0 45 1 ((([]):List (List Qaa)).map Qag))),(4,I 0)]) (own':=[.tok]) [(0,(Q5s p0)),(3,(.acc 0 45 1 (([]:List (List Qaa)).map Qag))),(4,I 0)] [0] [.tok] hq (pc (rnd Qak) (pc (.rn (Qa2 rfl (Qay Qak _))) (pw pn))) (qc .tok qn))) ?_
   refine Qbl (τ:=(List (List Qaa))×Int) (fun n t=>Qe0 N p0 k2 n t.1 t.2=some r) (fun ⟨y3,y4⟩=>⟨mk 20 [(0,(Q5s p0)),(3,(.acc 0 45 1 (y3.map Qag))),(4,I y4)],[.tok]⟩) (fun t h=>by rw[Qe0] at h;cases h) (fun n7 ih t h=>?_) N ([],0) h
   obtain⟨y3,y4⟩:=t
   rw[Qe0] at h
   skip
   refine wsq<|wx tbk [(2,rp _ _)] ⟨alq 1 Qag p0 underlying49,tv⟩ ?_
   refine bfe h (fun hc8 h=>?_) fun hc8 h=>?_
   ·refine wft hc8<|Qal<|thn<|wsq<|Qam ?_
    obtain⟨x9,hg10,h⟩:=bno h
    obtain⟨hi11,hj12⟩:=gsm hg10
    obtain⟨x14,hf13,h⟩:=bno h
    obtain⟨ha15,h⟩:=cko h
    refine wx1 tbk [(3,rp _ _),(5,rp _ _),(6,rp [(.tmp 16,(.dat 4 (x14.map Qad)))] (.dat 1 (([x14]:List (List Qaa)).map Qag))),(7,⟨[(.tmp 11,(.acc 0 45 1 (y3.map Qag))),(.tmp 17,(.dat 1 (([x14]:List (List Qaa)).map Qag)))],[(0,.tok),(1,.unused)],(.acc 1 45 1 ((y3++([x14]):List (List Qaa)).map Qag)),[(0,.dead),(1,.tok)],false⟩)] ⟨aiq underlying49 ti28 Qag hi11 hj12,apw Zok (Qta N x9 _ hf13),Qbm (vs:=[(.dat 4 (x14.map Qad))]) rfl underlying31 ti45 tz45 rfl (by decide) rfl (by decide) (by rfl) (by rfl) (by rfl) rfl,Qc6 rfl underlying31 te45 (Base.acc _ _) rfl rfl (by rfl) (Qf6 Qag ha15) (Qf5 Qag ha15 (by decide)) (Qf4 Qag) rfl rfl,tv⟩<|bln<|thn<|wxz1<|thn ?_
    exact arm (mto (n:=20) [(0,(Q5s p0)),(3,(.acc 1 45 1 ((y3++([x14]):List (List Qaa)).map Qag))),(4,(I (w64 (y4+1))))] [1] [.tok] hq (pc (rnd Qak) (pc (.rn (Qa2 rfl (Qay Qak _))) (pw pn))) (qc .tok qn)) (ih (y3++([x14]),w64 (y4+1)) h)
   ·exact wfn hc8<|Qa6<|Qau<|Qau<|Qa5 rfl<|thn<|⟨(y3),h,(mto (n:=20) [(3,(.acc 0 45 1 (y3.map Qag)))] [0] [.tok] hq (pc (.rn (Qa2 rfl (Qay Qak _))) pn) (qc .tok qn))⟩
def Qfg (N:Nat) (p0:GNet) (p2:List (List Qaa)) (k7:Unit→Option Int):Nat→Int→Option Int
  |0,_=>none
  |n10+1,y8=>
    bif (decide (y8<(p2.length:Int))) then
     (getI p2 y8).bind fun x12=>
     (Qiq N p0 x12).bind fun x17=>
     bif (x17 != 0) then
      some x17
     else
      Qfg N p0 p2 k7 n10 (w64 (y8+1))
    else
     k7 ()
def Ql9 (N:Nat) (p0:GNet) (p1:List Int) (p2:List (List Qaa)):Option Int:=
  (Qjg N p0 p1).bind fun x2=>
  bif (x2 != 0) then
   some x2
  else
   (Qco N (p2.length:Int) 1 6).bind fun x5=>
   bif (!x5) then
    some 3
   else
    Qbc (fun _=>
      some 0) fun k7:Unit→Option Int=>
    Qfg N p0 p2 k7 N 0
def Q5q (p2:List (List Qaa)):AV:=.dat 1 (p2.map Qag)
def Q5r (p0:GNet):Slot:=.own 2 [[(.dat 5 (p0.Table.map Qap)),(.dat 7 (p0.Elements.map Qae))]]
theorem Qxc (N:Nat) (p0:GNet) (p1:List Int) (p2:List (List Qaa)) (r:Int) (h:Ql9 N p0 p1 p2=some r):Spec prog 77 [(.agg (Qgv p0)),(.dat 1 (p1.map Qab)),(.dat 1 (p2.map Qag))] [] (I r) []:=by
  refine sA func77 0 fun _ _ _ hq hd0=>?_
  unfold Ql9 at h
  refine wxz<|wsq ?_
  obtain⟨x2,hf1,h⟩:=bno h
  refine wx tbk [(2,rp _ _)] ⟨apw Zed (Qo6 N p0 p1 _ hf1),tv⟩<|wxz ?_
  refine bfe h (fun hc3 h=>?_) fun hc3 h=>?_
  ·refine wft hc3<|wxz<|Qai<|Qaj ?_
   obtain rfl:=osi h
   exact fend ⟨[I x2],⟨rot,tv⟩,rfl⟩ nll
  ·refine wfn hc3<|Qal<|thn<|wsq ?_
   obtain⟨x5,hf4,h⟩:=bno h
   refine wx tbk [(1,rp _ _),(2,rp _ _)] ⟨alq 1 Qag p2 underlying31,apw Qme (Qdk N (p2.length:Int) 1 6 _ hf4),tv⟩ ?_
   refine bfe h (fun hc6 h=>?_) fun hc6 h=>?_
   ·refine wft hc6<|wxz<|Qai<|Qaj ?_
    obtain rfl:=osi h
    exact fend ⟨[I 3],⟨rot,tv⟩,rfl⟩ nll
   ·refine wfn hc6<|Qal<|thn ?_
    obtain⟨k7,hk_k7,h⟩:=jko h
    refine wjn (τ:=Unit) (fun t=>k7 t=some r) (fun _=>⟨mk 34 [],[]⟩) (fun t h=>?_) ?_
    ·subst hk_k7
     refine wxz<|Qai ?_
     obtain rfl:=osi h
     exact fend ⟨[I 0],⟨rot,tv⟩,rfl⟩ nll
    ·skip
     refine wx tbk [(1,rp _ _)] ⟨alq 1 Qag p2 underlying31,tv⟩<|Qam ?_
     refine wmr (mto (n:=34) (l':=[(3,.ref 0 2 0 0),(21,(Q5q p2)),(22,(I ((p2.length:Int)))),(23,I 0)]) (own':=[(Q5r p0)]) [(3,.ref 0 2 0 0),(21,(Q5q p2)),(22,(I ((p2.length:Int)))),(23,I 0)] [0] [(Q5r p0)] hq (prr (pc (rnd Qak) (pw (pw pn)))) (qb (lc (rnd Qao) (lc (rnd Qac) ln)) qn)) ?_
     refine Qbl (τ:=Int) (fun n t=>Qfg N p0 p2 k7 n t=some r) (fun y8=>⟨mk 34 [(3,.ref 0 2 0 0),(21,(Q5q p2)),(22,(I ((p2.length:Int)))),(23,I y8)],[(Q5r p0)]⟩) (fun t h=>by rw[Qfg] at h;cases h) (fun n10 ih y8 h=>?_) N (0) h
     rw[Qfg] at h
     skip
     refine wxz<|wsq ?_
     refine bfe h (fun hc11 h=>?_) fun hc11 h=>?_
     ·refine wft hc11<|Qal<|thn<|wsq<|Qam ?_
      obtain⟨x12,hg13,h⟩:=bno h
      obtain⟨hi14,hj15⟩:=gsm hg13
      refine wx tbk [(0,rp _ _)] ⟨aiq underlying31 ti45 Qag hi14 hj15,tv⟩ ?_
      obtain⟨x17,hf16,h⟩:=bno h
      refine wx tbk [(2,rp _ _)] ⟨apw Zea (Qoj N p0 x12 _ hf16),tv⟩<|wxz ?_
      refine bfe h (fun hc18 h=>?_) fun hc18 h=>?_
      ·refine wft hc18<|wxz<|Qai<|Qar<|Qaj<|Qaj<|Qar<|Qaj ?_
       obtain rfl:=osi h
       exact fend ⟨[I x17],⟨rot,tv⟩,rfl⟩ nll
      ·exact wfn hc18<|Qal<|bln<|thn<|wxz1<|thn<|arm (mto (n:=34) [(3,.ref 0 2 0 0),(21,(Q5q p2)),(22,(I ((p2.length:Int)))),(23,(I (w64 (y8+1))))] [0] [(Q5r p0)] hq (prr (pc (rnd Qak) (pw (pw pn)))) (qb (lc (rnd Qao) (lc (rnd Qac) ln)) qn)) (ih (w64 (y8+1)) h)
     ·exact wfn hc11<|Qa6<|Qau<|Qau<|Qa5 rfl<|thn<|⟨(),h,(mto (n:=34) [] [] [] hq pn qn)⟩
def Qde (N:Nat) (p0:GNet) (p1:List Int) (k2:(List Qds)→Option ((List Qds)×Bool)) (p2:List (List Qaa)):Nat→(List Qds)→Int→Option ((List Qds)×Bool)
  |0,_,_=>none
  |n7+1,y3,y4=>
    bif (decide (y4<(p2.length:Int))) then
     (getI p2 y4).bind fun x9=>
     (Qgc N p0 p1 x9).bind (
      Sum.elim (fun x15=>
        bif (decide (x15≥0)) then
         some ([],false)
        else
         none)
      (fun x17=>
        bif (decide (x17.1≥0)) then
         some ([],false)
        else
         chk (decide ((p0.Elements.length:Int).toNat≤x17.2.2.1.length))<|
         chk (decide ((p0.Elements.length:Int).toNat≤x17.2.2.2.1.length))<|
         chk (decide (p1.length≤x17.2.2.2.2.length))<|
         chk (decide ((y3.length+([(⟨p0,(⟨x17.2.2.1.take ((p0.Elements.length:Int).toNat),x17.2.2.2.1.take ((p0.Elements.length:Int).toNat),x17.2.2.2.2.take p1.length⟩:Qe4),x9,x17.2.1⟩:Qds)]).length)*8≤140737488355328))<|
         Qde N p0 p1 k2 p2 n7 (y3++([(⟨p0,(⟨x17.2.2.1.take ((p0.Elements.length:Int).toNat),x17.2.2.2.1.take ((p0.Elements.length:Int).toNat),x17.2.2.2.2.take p1.length⟩:Qe4),x9,x17.2.1⟩:Qds)])) (w64 (y4+1))))
    else
     k2 (y3)
def Qi0 (N:Nat) (p0:GNet) (p1:List Int) (p2:List (List Qaa)):Option ((List Qds)×Bool):=
  Qbc (fun y1=>
    some (y1,true)) fun k2:(List Qds)→Option ((List Qds)×Bool)=>
  Qde N p0 p1 k2 p2 N ([]) 0
def Qoh (p2:List (List Qaa)):AV:=.dat 1 (p2.map Qag)
def Qp7 (p0:GNet):AV:=.dat 5 (p0.Table.map Qap)
def Qp6 (p0:GNet):AV:=.dat 7 (p0.Elements.map Qae)
def Qoi (p0:GNet):Slot:=.own 2 [[(Qp7 p0),(Qp6 p0)]]
def Ql2 (y3:List Qds):AV:=.acc 1 136 1 (y3.map Qdi)
def Qp5 (p0:GNet):AV:=.agg [(Qp7 p0),(Qp6 p0)]
def Qdp (x9:List Qaa):AV:=.dat 4 (x9.map Qad)
def Zqm:Slot:=.own 1 [[(.lit (.pointer none))]]
def Zbf:AV:=.dat 1 (([]:List Qds).map Qdi)
def Qos:Slot:=.own 1 [[(.ref 4 7 (0) 0)]]
def Zbi (p0:GNet) (p1:List Int) (x9:List Qaa) (x17:(Int×Int×(List (List Qaa))×(List Qa1)×(List Int))):Slot:=.own 7 [[(Qp7 p0),(Qp6 p0),(.own 5 1 (0) ((p0.Elements.length:Int).toNat)),(.own 6 4 (0) ((p0.Elements.length:Int).toNat)),(.own 7 1 (0) p1.length),(Qdp x9),(I x17.2.1)]]
def Qsn (x17:(Int×Int×(List (List Qaa))×(List Qa1)×(List Int))):Slot:=.own 1 (x17.2.2.2.2.map Qab)
def Qqf (x17:(Int×Int×(List (List Qaa))×(List Qa1)×(List Int))) (p0:GNet):AV:=.dat 1 ((x17.2.2.1.take ((p0.Elements.length:Int).toNat):List (List Qaa)).map Qag)
def Qu5 (x17:(Int×Int×(List (List Qaa))×(List Qa1)×(List Int))) (p0:GNet):AV:=.dat 4 ((x17.2.2.2.1.take ((p0.Elements.length:Int).toNat):List Qa1).map Qat)
def Zbh (p0:GNet) (x17:(Int×Int×(List (List Qaa))×(List Qa1)×(List Int))) (p1:List Int) (x9:List Qaa):AV:=.dat 1 (([(⟨p0,(⟨x17.2.2.1.take ((p0.Elements.length:Int).toNat),x17.2.2.2.1.take ((p0.Elements.length:Int).toNat),x17.2.2.2.2.take p1.length⟩:Qe4),x9,x17.2.1⟩:Qds)]:List Qds).map Qdi)
def Zbg (y3:List Qds) (p0:GNet) (x17:(Int×Int×(List (List Qaa))×(List Qa1)×(List Int))) (p1:List Int) (x9:List Qaa):AV:=.acc 8 136 1 ((y3++([(⟨p0,(⟨x17.2.2.1.take ((p0.Elements.length:Int).toNat),x17.2.2.2.1.take ((p0.Elements.length:Int).toNat),x17.2.2.2.2.take p1.length⟩:Qe4),x9,x17.2.1⟩:Qds)]):List Qds).map Qdi)
theorem Qsz (N:Nat) (p0:GNet) (p1:List Int) (p2:List (List Qaa)) (r:((List Qds)×Bool)) (h:Qi0 N p0 p1 p2=some r):Spec prog 78 [(.agg (Qgv p0)),(.dat 1 (p1.map Qab)),(.dat 1 (p2.map Qag))] [] (.tup [(.dat 1 (r.1.map Qdi)),(B r.2)]) []:=by
  refine sA func78 0 fun _ _ _ hq hd0=>?_
  unfold Qi0 at h
  refine wxz<|wxz ?_
  obtain⟨k2,hk_k2,h⟩:=jko h
  refine wjn (τ:=(List Qds)) (fun t=>k2 t=some r) (fun y1=>⟨mk 34 [(8,(.acc 0 136 1 (y1.map Qdi)))],[.tok]⟩) (fun y1 h=>?_) ?_
  ·subst hk_k2
   refine wxz<|Qai ?_
   obtain rfl:=osi h
   exact fie [(.dat 1 (y1.map Qdi)),B true] ⟨Qbz (v:=(.acc 0 136 1 (y1.map Qdi))) rot Less.acc,rot,tv⟩
  ·skip
   refine wx tbk [(1,rp _ _)] ⟨alq 1 Qag p2 underlying31,tv⟩<|Qam ?_
   refine wmr (Mor.trans (Qo9 1 136 1 8 (by kernel_rfl) (by kernel_rfl)) (mto (n:=34) (l':=[(1,(.dat 1 (p1.map Qab))),(3,.ref 0 2 0 0),(8,(.acc 1 136 1 ((([]):List Qds).map Qdi))),(13,(Qoh p2)),(14,(I ((p2.length:Int)))),(15,I 0)]) (own':=[(Qoi p0),.tok]) [(1,(.dat 1 (p1.map Qab))),(3,.ref 0 2 0 0),(8,(.acc 1 136 1 (([]:List Qds).map Qdi))),(13,(Qoh p2)),(14,(I ((p2.length:Int)))),(15,I 0)] [0,1] [(Qoi p0),.tok] hq (pc (rnd Qah) (prr (pc (.rn (Qa2 rfl (Qay Qh7 _))) (pc (rnd Qak) (pw (pw pn)))))) (qb (lc (rnd Qao) (lc (rnd Qac) ln)) (qc .tok qn)))) ?_
   refine Qbl (τ:=(List Qds)×Int) (fun n t=>Qde N p0 p1 k2 p2 n t.1 t.2=some r) (fun ⟨y3,y4⟩=>⟨mk 34 [(1,(.dat 1 (p1.map Qab))),(3,.ref 0 2 0 0),(8,(Ql2 y3)),(13,(Qoh p2)),(14,(I ((p2.length:Int)))),(15,I y4)],[(Qoi p0),.tok]⟩) (fun t h=>by rw[Qde] at h;cases h) (fun n7 ih t h=>?_) N ([],0) h
   obtain⟨y3,y4⟩:=t
   rw[Qde] at h
   skip
   refine wxz<|wsq ?_
   refine bfe h (fun hc8 h=>?_) fun hc8 h=>?_
   ·refine wft hc8<|Qal<|thn<|wsq<|Qam ?_
    obtain⟨x9,hg10,h⟩:=bno h
    obtain⟨hi11,hj12⟩:=gsm hg10
    refine wx tbk [(0,rp _ _)] ⟨aiq underlying31 ti45 Qag hi11 hj12,tv⟩ ?_
    obtain⟨x14,hf13,h⟩:=bno h
    rcases x14 with x15 |x17
    ·replace h:=Zmp h
     refine wx tbk [(3,⟨_,_,_,_,false⟩)] ⟨acq [(Qp5 p0),(.dat 1 (p1.map Qab)),(Qdp x9)] [] [Zqm,(.own 1 [[I x15]])] (.tup [(.lit (.pointer none)),I x15]) [2,3] Qz5 (Qmv N p0 p1 x9 _ hf13) (Qbr (rnc (.plain _ (NLt.agg _ (nlc (nld Qao _) (nlc (nld Qac _) nl0)))) (rnc (pld Qah) (rnc (pld Qan) rn0)))) Qas (slc (Qaq (rnc (.plain _ nll) rn0)) (slc (Qaq (rnc (.plain _ nll) rn0)) Qas)) (.plain _ (NLt.tup _ (nlcc nl0))),tv⟩<|wsq<|wxz ?_
     refine bfe h (fun hc16 h=>?_) fun hc16 h=>?_
     ·refine wft hc16<|wxz<|Qai<|Qaj<|Qar<|Qaj<|Qaj<|Qar<|Qaj ?_
      obtain rfl:=osi h
      exact fie [Zbf,B false] ⟨Qbz (v:=nilS) rot Less.nil,rot,tv⟩
     ·refine wfn hc16<|Qal<|thn ?_
      cases h
    ·replace h:=Zmo h
     refine wx tbk [(3,⟨_,_,_,_,false⟩)] ⟨acq [(Qp5 p0),(.dat 1 (p1.map Qab)),(Qdp x9)] [] [Qos,(.own 1 [[I x17.1]]),(Zbi p0 p1 x9 x17),(.own 1 (x17.2.2.1.map Qag)),(.own 4 (x17.2.2.2.1.map Qat)),(Qsn x17)] (.tup [.ref 4 7 0 0,I x17.1]) [2,3,4,5,6,7] Qz5 (Qmu N p0 p1 x9 _ hf13) (Qbr (rnc (.plain _ (NLt.agg _ (nlc (nld Qao _) (nlc (nld Qac _) nl0)))) (rnc (pld Qah) (rnc (pld Qan) rn0)))) Qas (slc (Qaq (rnc (Qbb rfl) rn0)) (slc (Qaq (rnc (.plain _ nll) rn0)) (slc (Qaq (rnc (pld Qao) (rnc (pld Qac) (rnc (Qcy rfl) (rnc (Qcy rfl) (rnc (Qcy rfl) (rnc (pld Qan) (rnc (.plain _ nll) rn0)))))))) (slc (Qba Qak) (slc (Qba Qa7) (slc (Qba Qah) Qas)))))) (Zk2 (rnc (Qbb rfl) (rnc (.plain _ nll) rn0))),tv⟩<|wsq<|wxz ?_
     refine bfe h (fun hc18 h=>?_) fun hc18 h=>?_
     ·refine wft hc18<|wxz<|Qai<|Qaj<|Qar<|Qaj<|Qaj<|Qar<|Qaj ?_
      obtain rfl:=osi h
      exact fie [Zbf,B false] ⟨Qbz (v:=nilS) rot Less.nil,rot,tv⟩
     ·refine wfn hc18<|Qal<|thn ?_
      obtain⟨hz19,h⟩:=cko h
      refine wmr (Qzp [(Qoi p0),.tok,Qos,(.own 1 [[I x17.1]]),(Zbi p0 p1 x9 x17),(.own 1 (x17.2.2.1.map Qag)),(.own 4 (x17.2.2.2.1.map Qat)),(Qsn x17)] (Qzq (n:=34) (m:=1) (xs:=x17.2.2.1.map Qag) (l':=[(1,(.dat 1 (p1.map Qab))),(3,.ref 0 2 0 0),(8,(Ql2 y3)),(10,(Qdp x9)),(11,.ref 4 7 0 0),(12,I x17.1),(13,(Qoh p2)),(14,(I ((p2.length:Int)))),(15,I y4),(16,(B ((decide (y4<(p2.length:Int)))))),(17,(.dptr (Qag x9) 0)),(18,(Qdp x9)),(19,(.tup [.ref 4 7 0 0,I x17.1])),(20,(Qp5 p0)),(21,(.dat 1 (p1.map Qab))),(22,(Qdp x9)),(23,(.tup [.ref 4 7 0 0,I x17.1])),(24,.ref 4 7 0 0),(25,I x17.1),(26,I x17.1),(27,(B ((decide (x17.1≥0)))))]) (own':=[(Qoi p0),.tok,Qos,(.own 1 [[I x17.1]]),(.own 7 [[(Qp7 p0),(Qp6 p0),(Qqf x17 p0),(.own 6 4 (0) ((p0.Elements.length:Int).toNat)),(.own 7 1 (0) p1.length),(Qdp x9),I x17.2.1]]),.dead,(.own 4 (x17.2.2.2.1.map Qat)),(Qsn x17)]) 5 [(1,(.dat 1 (p1.map Qab))),(3,.ref 0 2 0 0),(8,(Ql2 y3)),(10,(Qdp x9)),(11,.ref 4 7 0 0),(12,I x17.1),(13,(Qoh p2)),(14,(I ((p2.length:Int)))),(15,I y4),(16,(B ((decide (y4<(p2.length:Int)))))),(17,(.dptr (Qag x9) 0)),(18,(Qdp x9)),(19,(.tup [.ref 4 7 0 0,I x17.1])),(20,(Qp5 p0)),(21,(.dat 1 (p1.map Qab))),(22,(Qdp x9)),(23,(.tup [.ref 4 7 0 0,I x17.1])),(24,.ref 4 7 0 0),(25,I x17.1),(26,I x17.1),(27,(B ((decide (x17.1≥0)))))] (by kernel_rfl) (by kernel_rfl) (by kernel_rfl) ⟨rfl,(.same _),rfl,(.same _),rfl,(.same _),rfl,(.same _),rfl,(.same _),rfl,(.same _),rfl,(.same _),rfl,(.same _),rfl,(.same _),rfl,(.same _),rfl,(.same _),rfl,(.same _),rfl,(.same _),rfl,(.same _),rfl,(.same _),rfl,(.same _),rfl,(.same _),rfl,(.same _),rfl,(.same _),rfl,(.same _),rfl,(.same _),tv⟩ (qc Qdg (qc Qdg (qc Qdg (qc Qdg (qc (Quk (lc (.same _) (lc (.same _) (lc (Qlo hz19) (lc (.same _) (lc (.same _) (lc (.same _) (lc (.same _) ln)))))))) (qc .dead (qc Qdg (qc Qdg qn)))))))))) ?_
      obtain⟨hz20,h⟩:=cko h
      refine wmr (Qzp [(Qoi p0),.tok,Qos,(.own 1 [[I x17.1]]),(.own 7 [[(Qp7 p0),(Qp6 p0),(Qqf x17 p0),(.own 6 4 (0) ((p0.Elements.length:Int).toNat)),(.own 7 1 (0) p1.length),(Qdp x9),I x17.2.1]]),.dead,(.own 4 (x17.2.2.2.1.map Qat)),(Qsn x17)] (Qzq (n:=34) (m:=4) (xs:=x17.2.2.2.1.map Qat) (l':=[(1,(.dat 1 (p1.map Qab))),(3,.ref 0 2 0 0),(8,(Ql2 y3)),(10,(Qdp x9)),(11,.ref 4 7 0 0),(12,I x17.1),(13,(Qoh p2)),(14,(I ((p2.length:Int)))),(15,I y4),(16,(B ((decide (y4<(p2.length:Int)))))),(17,(.dptr (Qag x9) 0)),(18,(Qdp x9)),(19,(.tup [.ref 4 7 0 0,I x17.1])),(20,(Qp5 p0)),(21,(.dat 1 (p1.map Qab))),(22,(Qdp x9)),(23,(.tup [.ref 4 7 0 0,I x17.1])),(24,.ref 4 7 0 0),(25,I x17.1),(26,I x17.1),(27,(B ((decide (x17.1≥0)))))]) (own':=[(Qoi p0),.tok,Qos,(.own 1 [[I x17.1]]),(.own 7 [[(Qp7 p0),(Qp6 p0),(Qqf x17 p0),(Qu5 x17 p0),(.own 7 1 (0) p1.length),(Qdp x9),I x17.2.1]]),.dead,.dead,(Qsn x17)]) 6 [(1,(.dat 1 (p1.map Qab))),(3,.ref 0 2 0 0),(8,(Ql2 y3)),(10,(Qdp x9)),(11,.ref 4 7 0 0),(12,I x17.1),(13,(Qoh p2)),(14,(I ((p2.length:Int)))),(15,I y4),(16,(B ((decide (y4<(p2.length:Int)))))),(17,(.dptr (Qag x9) 0)),(18,(Qdp x9)),(19,(.tup [.ref 4 7 0 0,I x17.1])),(20,(Qp5 p0)),(21,(.dat 1 (p1.map Qab))),(22,(Qdp x9)),(23,(.tup [.ref 4 7 0 0,I x17.1])),(24,.ref 4 7 0 0),(25,I x17.1),(26,I x17.1),(27,(B ((decide (x17.1≥0)))))] (by kernel_rfl) (by kernel_rfl) (by kernel_rfl) ⟨rfl,(.same _),rfl,(.same _),rfl,(.same _),rfl,(.same _),rfl,(.same _),rfl,(.same _),rfl,(.same _),rfl,(.same _),rfl,(.same _),rfl,(.same _),rfl,(.same _),rfl,(.same _),rfl,(.same _),rfl,(.same _),rfl,(.same _),rfl,(.same _),rfl,(.same _),rfl,(.same _),rfl,(.same _),rfl,(.same _),rfl,(.same _),tv⟩ (qc Qdg (qc Qdg (qc Qdg (qc Qdg (qc (Quk (lc (.same _) (lc (.same _) (lc (.same _) (lc (Qlo hz20) (lc (.same _) (lc (.same _) (lc (.same _) ln)))))))) (qc Qdg (qc .dead (qc Qdg qn)))))))))) ?_
      obtain⟨hz21,h⟩:=cko h
      refine wmr (Qzp [(Qoi p0),.tok,Qos,(.own 1 [[I x17.1]]),(.own 7 [[(Qp7 p0),(Qp6 p0),(Qqf x17 p0),(Qu5 x17 p0),(.own 7 1 (0) p1.length),(Qdp x9),I x17.2.1]]),.dead,.dead,(Qsn x17)] (Qzq (n:=34) (m:=1) (xs:=x17.2.2.2.2.map Qab) (l':=[(1,(.dat 1 (p1.map Qab))),(3,.ref 0 2 0 0),(8,(Ql2 y3)),(10,(Qdp x9)),(11,.ref 4 7 0 0),(12,I x17.1),(13,(Qoh p2)),(14,(I ((p2.length:Int)))),(15,I y4),(16,(B ((decide (y4<(p2.length:Int)))))),(17,(.dptr (Qag x9) 0)),(18,(Qdp x9)),(19,(.tup [.ref 4 7 0 0,I x17.1])),(20,(Qp5 p0)),(21,(.dat 1 (p1.map Qab))),(22,(Qdp x9)),(23,(.tup [.ref 4 7 0 0,I x17.1])),(24,.ref 4 7 0 0),(25,I x17.1),(26,I x17.1),(27,(B ((decide (x17.1≥0)))))]) (own':=[(Qoi p0),.tok,Qos,(.own 1 [[I x17.1]]),(.own 7 [[(Qp7 p0),(Qp6 p0),(Qqf x17 p0),(Qu5 x17 p0),(.dat 1 ((x17.2.2.2.2.take p1.length:List Int).map Qab)),(Qdp x9),I x17.2.1]]),.dead,.dead,.dead]) 7 [(1,(.dat 1 (p1.map Qab))),(3,.ref 0 2 0 0),(8,(Ql2 y3)),(10,(Qdp x9)),(11,.ref 4 7 0 0),(12,I x17.1),(13,(Qoh p2)),(14,(I ((p2.length:Int)))),(15,I y4),(16,(B ((decide (y4<(p2.length:Int)))))),(17,(.dptr (Qag x9) 0)),(18,(Qdp x9)),(19,(.tup [.ref 4 7 0 0,I x17.1])),(20,(Qp5 p0)),(21,(.dat 1 (p1.map Qab))),(22,(Qdp x9)),(23,(.tup [.ref 4 7 0 0,I x17.1])),(24,.ref 4 7 0 0),(25,I x17.1),(26,I x17.1),(27,(B ((decide (x17.1≥0)))))] (by kernel_rfl) (by kernel_rfl) (by kernel_rfl) ⟨rfl,(.same _),rfl,(.same _),rfl,(.same _),rfl,(.same _),rfl,(.same _),rfl,(.same _),rfl,(.same _),rfl,(.same _),rfl,(.same _),rfl,(.same _),rfl,(.same _),rfl,(.same _),rfl,(.same _),rfl,(.same _),rfl,(.same _),rfl,(.same _),rfl,(.same _),rfl,(.same _),rfl,(.same _),rfl,(.same _),rfl,(.same _),tv⟩ (qc Qdg (qc Qdg (qc Qdg (qc Qdg (qc (Quk (lc (.same _) (lc (.same _) (lc (.same _) (lc (.same _) (lc (Qlo hz21) (lc (.same _) (lc (.same _) ln)))))))) (qc Qdg (qc Qdg (qc .dead qn)))))))))) ?_
      refine wmr (Qzp [(Qoi p0),.tok,Qos,(.own 1 [[I x17.1]]),(.own 7 [[(Qp7 p0),(Qp6 p0),(Qqf x17 p0),(Qu5 x17 p0),(.dat 1 ((x17.2.2.2.2.take p1.length:List Int).map Qab)),(Qdp x9),I x17.2.1]]),.dead,.dead,.dead] (Qzq (n:=34) (m:=7) (xs:=[[(Qp7 p0),(Qp6 p0),(Qqf x17 p0),(Qu5 x17 p0),(.dat 1 ((x17.2.2.2.2.take p1.length:List Int).map Qab)),(Qdp x9),I x17.2.1]]) (l':=[(1,(.dat 1 (p1.map Qab))),(3,.ref 0 2 0 0),(8,(Ql2 y3)),(10,(Qdp x9)),(11,(.dptr (Qkj (⟨p0,(⟨x17.2.2.1.take ((p0.Elements.length:Int).toNat),x17.2.2.2.1.take ((p0.Elements.length:Int).toNat),x17.2.2.2.2.take p1.length⟩:Qe4),x9,x17.2.1⟩:Qds)) 0)),(12,I x17.1),(13,(Qoh p2)),(14,(I ((p2.length:Int)))),(15,I y4),(16,(B ((decide (y4<(p2.length:Int)))))),(17,(.dptr (Qag x9) 0)),(18,(Qdp x9)),(19,.any),(20,(Qp5 p0)),(21,(.dat 1 (p1.map Qab))),(22,(Qdp x9)),(23,.any),(24,(.dptr (Qkj (⟨p0,(⟨x17.2.2.1.take ((p0.Elements.length:Int).toNat),x17.2.2.2.1.take ((p0.Elements.length:Int).toNat),x17.2.2.2.2.take p1.length⟩:Qe4),x9,x17.2.1⟩:Qds)) 0)),(25,I x17.1),(26,I x17.1),(27,(B ((decide (x17.1≥0)))))]) (own':=[(Qoi p0),.tok,(.own 1 [[(.dptr (Qkj (⟨p0,(⟨x17.2.2.1.take ((p0.Elements.length:Int).toNat),x17.2.2.2.1.take ((p0.Elements.length:Int).toNat),x17.2.2.2.2.take p1.length⟩:Qe4),x9,x17.2.1⟩:Qds)) 0)]]),(.own 1 [[I x17.1]]),.dead,.dead,.dead,.dead]) 4 [(1,(.dat 1 (p1.map Qab))),(3,.ref 0 2 0 0),(8,(Ql2 y3)),(10,(Qdp x9)),(11,.ref 4 7 0 0),(12,I x17.1),(13,(Qoh p2)),(14,(I ((p2.length:Int)))),(15,I y4),(16,(B ((decide (y4<(p2.length:Int)))))),(17,(.dptr (Qag x9) 0)),(18,(Qdp x9)),(19,(.tup [.ref 4 7 0 0,I x17.1])),(20,(Qp5 p0)),(21,(.dat 1 (p1.map Qab))),(22,(Qdp x9)),(23,(.tup [.ref 4 7 0 0,I x17.1])),(24,.ref 4 7 0 0),(25,I x17.1),(26,I x17.1),(27,(B ((decide (x17.1≥0)))))] (by kernel_rfl) (by kernel_rfl) (by kernel_rfl) ⟨rfl,(.same _),rfl,(.same _),rfl,(.same _),rfl,(.same _),rfl,(.ptr _ _ rfl),rfl,(.same _),rfl,(.same _),rfl,(.same _),rfl,(.same _),rfl,(.same _),rfl,(.same _),rfl,(.same _),rfl,(.any _),rfl,(.same _),rfl,(.same _),rfl,(.same _),rfl,(.any _),rfl,(.ptr _ _ rfl),rfl,(.same _),rfl,(.same _),rfl,(.same _),tv⟩ (qc Qdg (qc Qdg (qc (Quk (lc (.ptr _ _ rfl) ln)) (qc Qdg (qc .dead (qc Qdg (qc Qdg (qc Qdg qn)))))))))) ?_
      obtain⟨ha22,h⟩:=cko h
      refine wx1 tbk [(2,rp [(.tmp 29,(.dptr (Qkj (⟨p0,(⟨x17.2.2.1.take ((p0.Elements.length:Int).toNat),x17.2.2.2.1.take ((p0.Elements.length:Int).toNat),x17.2.2.2.2.take p1.length⟩:Qe4),x9,x17.2.1⟩:Qds)) 0))] (Zbh p0 x17 p1 x9)),(3,⟨[(.tmp 28,(Ql2 y3)),(.tmp 30,(Zbh p0 x17 p1 x9))],[(1,.tok),(8,.unused)],(Zbg y3 p0 x17 p1 x9),[(1,.dead),(8,.tok)],false⟩)] ⟨Qbm (vs:=[(.dptr (Qkj (⟨p0,(⟨x17.2.2.1.take ((p0.Elements.length:Int).toNat),x17.2.2.2.1.take ((p0.Elements.length:Int).toNat),x17.2.2.2.2.take p1.length⟩:Qe4),x9,x17.2.1⟩:Qds)) 0)]) rfl underlying168 Qpv Zq3 rfl (by decide) rfl (by decide) (by rfl) (by rfl) (by rfl) rfl,Qc6 rfl underlying168 Ztj (Base.acc _ _) rfl rfl (by rfl) (Qf6 Qdi ha22) (Qf5 Qdi ha22 (by decide)) (Qf4 Qdi) rfl rfl,tv⟩<|bln<|thn<|wxz1<|thn ?_
      exact arm (mto (n:=34) [(1,(.dat 1 (p1.map Qab))),(3,.ref 0 2 0 0),(8,(Zbg y3 p0 x17 p1 x9)),(13,(Qoh p2)),(14,(I ((p2.length:Int)))),(15,(I (w64 (y4+1))))] [0,8] [(Qoi p0),.tok] hq (pc (rnd Qah) (prr (pc (.rn (Qa2 rfl (Qay Qh7 _))) (pc (rnd Qak) (pw (pw pn)))))) (qb (lc (rnd Qao) (lc (rnd Qac) ln)) (qc .tok qn))) (ih (y3++([(⟨p0,(⟨x17.2.2.1.take ((p0.Elements.length:Int).toNat),x17.2.2.2.1.take ((p0.Elements.length:Int).toNat),x17.2.2.2.2.take p1.length⟩:Qe4),x9,x17.2.1⟩:Qds)]),w64 (y4+1)) h)
   ·exact wfn hc8<|Qa6<|Qau<|Qau<|Qa5 rfl<|thn<|⟨(y3),h,(mto (n:=34) [(8,(Ql2 y3))] [1] [.tok] hq (pc (.rn (Qa2 rfl (Qay Qh7 _))) pn) (qc .tok qn))⟩
def Qey (N:Nat) (y2:Int) (k6:Unit→Option (Int×Int)) (x7:Qds):Nat→Int→Option (Int×Int)
  |0,_=>none
  |n13+1,y11=>
    bif (decide (y11<(x7.Tick.Lost.length:Int))) then
     (getI x7.Tick.Lost y11).bind fun x15=>
     bif (decide (x15.Scale>0)) then
      some (y2,y11)
     else
      Qey N y2 k6 x7 n13 (w64 (y11+1))
    else
     k6 ()
def Qez (N:Nat) (p0:List Qds) (k1:Unit→Option (Int×Int)):Nat→Int→Option (Int×Int)
  |0,_=>none
  |n4+1,y2=>
    bif (decide (y2<(p0.length:Int))) then
     Qbc (fun _=>
       Qez N p0 k1 n4 (w64 (y2+1))) fun k6:Unit→Option (Int×Int)=>
     (getI p0 y2).bind fun x7=>
     Qey N y2 k6 x7 N 0
    else
     k1 ()
def Qk9 (N:Nat) (p0:List Qds):Option (Int×Int):=
  Qbc (fun _=>
    some ((-1),(-1))) fun k1:Unit→Option (Int×Int)=>
  Qez N p0 k1 N 0
def Qp4 (p0:List Qds):AV:=.dat 1 (p0.map Qdi)
def Qyy (x7:Qds):AV:=.dat 4 (x7.Tick.Lost.map Qat)
theorem Qvw (N:Nat) (p0:List Qds) (r:(Int×Int)) (h:Qk9 N p0=some r):Spec prog 86 [(.dat 1 (p0.map Qdi))] [] (.tup [(I r.1),(I r.2)]) []:=by
  refine sA func86 0 fun _ _ _ hq hd0=>?_
  unfold Qk9 at h
  refine wxz ?_
  obtain⟨k1,hk_k1,h⟩:=jko h
  refine wjn (τ:=Unit) (fun t=>k1 t=some r) (fun _=>⟨mk 33 [],[]⟩) (fun t h=>?_) ?_
  ·subst hk_k1
   refine wxz<|Qai ?_
   obtain rfl:=osi h
   exact fie [(I ((-1))),(I ((-1)))] ⟨rot,rot,tv⟩
  ·skip
   refine wx tbk [(1,rp _ _)] ⟨alq 1 Qdi p0 underlying168,tv⟩<|Qam ?_
   refine wmr (mto (n:=33) (l':=[(8,(Qp4 p0)),(9,(I ((p0.length:Int)))),(10,I 0)]) (own':=[]) [(8,(Qp4 p0)),(9,(I ((p0.length:Int)))),(10,I 0)] [] [] hq (pc (rnd Qh7) (pw (pw pn))) qn) ?_
   refine Qbl (τ:=Int) (fun n t=>Qez N p0 k1 n t=some r) (fun y2=>⟨mk 33 [(8,(Qp4 p0)),(9,(I ((p0.length:Int)))),(10,I y2)],[]⟩) (fun t h=>by rw[Qez] at h;cases h) (fun n4 ih y2 h=>?_) N (0) h
   rw[Qez] at h
   skip
   refine wxz<|wsq ?_
   refine bfe h (fun hc5 h=>?_) fun hc5 h=>?_
   ·refine wft hc5<|Qal<|thn ?_
    obtain⟨k6,hk_k6,h⟩:=jko h
    refine wjn (τ:=Unit) (fun t=>k6 t=some r) (fun _=>⟨mk 33 [(8,(Qp4 p0)),(9,(I ((p0.length:Int)))),(10,I y2)],[]⟩) (fun t h=>?_) ?_
    ·subst hk_k6
     exact wxz1<|thn<|arm (mto (n:=33) [(8,(Qp4 p0)),(9,(I ((p0.length:Int)))),(10,(I (w64 (y2+1))))] [] [] hq (pc (rnd Qh7) (pw (pw pn))) qn) (ih (w64 (y2+1)) h)
    ·skip
     refine Qam ?_
     obtain⟨x7,hg8,h⟩:=bno h
     obtain⟨hi9,hj10⟩:=gsm hg8
     refine wx tbk [(1,rp _ _)] ⟨aiq underlying168 Qpv Qdi hi9 hj10,tv⟩ ?_
     refine wx tbk [(5,rp _ _)] ⟨alq 4 Qat x7.Tick.Lost underlying32,tv⟩<|Qam ?_
     refine wmr (mto (n:=33) (l':=[(4,I y2),(8,(Qp4 p0)),(9,(I ((p0.length:Int)))),(10,I y2),(19,(Qyy x7)),(20,(I ((x7.Tick.Lost.length:Int)))),(21,I 0)]) (own':=[]) [(4,I y2),(8,(Qp4 p0)),(9,(I ((p0.length:Int)))),(10,I y2),(19,(Qyy x7)),(20,(I ((x7.Tick.Lost.length:Int)))),(21,I 0)] [] [] hq (pw (pc (rnd Qh7) (pw (pw (pc (rnd Qa7) (pw (pw pn))))))) qn) ?_
     refine Qbl (τ:=Int) (fun n t=>Qey N y2 k6 x7 n t=some r) (fun y11=>⟨mk 33 [(4,I y2),(8,(Qp4 p0)),(9,(I ((p0.length:Int)))),(10,I y2),(19,(Qyy x7)),(20,(I ((x7.Tick.Lost.length:Int)))),(21,I y11)],[]⟩) (fun t h=>by rw[Qey] at h;cases h) (fun n13 ih y11 h=>?_) N (0) h
     rw[Qey] at h
     skip
     refine wxz<|wsq ?_
     refine bfe h (fun hc14 h=>?_) fun hc14 h=>?_
     ·refine wft hc14<|Qal<|thn<|wsq<|Qam ?_
      obtain⟨x15,hg16,h⟩:=bno h
      obtain⟨hi17,hj18⟩:=gsm hg16
      refine wx tbk [(1,rp _ _)] ⟨aiq underlying32 ti82 Qat hi17 hj18,tv⟩<|wxz ?_
      refine bfe h (fun hc19 h=>?_) fun hc19 h=>?_
      ·refine wft hc19<|wxz<|Qai<|Qar<|Qaj<|Qaj<|Qar<|Qar<|Qaj<|Qaj ?_
       refine Qar<|Qaj ?_
       obtain rfl:=osi h
       exact fie [I y2,I y11] ⟨rot,rot,tv⟩
      ·exact wfn hc19<|Qal<|bln<|thn<|wxz1<|thn<|arm (mto (n:=33) [(4,I y2),(8,(Qp4 p0)),(9,(I ((p0.length:Int)))),(10,I y2),(19,(Qyy x7)),(20,(I ((x7.Tick.Lost.length:Int)))),(21,(I (w64 (y11+1))))] [] [] hq (pw (pc (rnd Qh7) (pw (pw (pc (rnd Qa7) (pw (pw pn))))))) qn) (ih (w64 (y11+1)) h)
     ·exact wfn hc14<|Qa6<|Qau<|Qau<|Qa5 rfl<|bln<|thn<|⟨(),h,(mto (n:=33) [(8,(Qp4 p0)),(9,(I ((p0.length:Int)))),(10,I y2)] [] [] hq (pc (rnd Qh7) (pw (pw pn))) qn)⟩
   ·exact wfn hc5<|Qa6<|Qau<|Qau<|Qa5 rfl<|thn<|⟨(),h,(mto (n:=33) [] [] [] hq pn qn)⟩
def Qda (N:Nat) (p0:GNet) (p1:List (List Qaa)) (k2:Unit→Option Int):Nat→Int→Option Int
  |0,_=>none
  |n5+1,y3=>
    bif (decide (y3<(p1.length:Int))) then
     (getI p1 y3).bind fun x7=>
     (Qh5 N p0 x7).bind fun x12=>
     bif (x12 != 0) then
      some x12
     else
      Qda N p0 p1 k2 n5 (w64 (y3+1))
    else
     k2 ()
def Qin (N:Nat) (p0:GNet) (p1:List (List Qaa)):Option Int:=
  Qbc (fun _=>
    Qbc (fun _=>
      some 0) fun k2:Unit→Option Int=>
    Qda N p0 p1 k2 N 0) fun k1:Unit→Option Int=>
  bif (decide ((p1.length:Int)<1)) then
   some 3
  else
   bif (decide ((p1.length:Int)>6)) then
    some 3
   else
    k1 ()
def Qu4 (p1:List (List Qaa)):AV:=.dat 1 (p1.map Qag)
def Zqk (p0:GNet):AV:=.dat 7 (p0.Elements.map Qae)
def Qxm (p0:GNet):Slot:=.own 2 [[(.dat 5 (p0.Table.map Qap)),(Zqk p0)]]
theorem Qpy (N:Nat) (p0:GNet) (p1:List (List Qaa)) (r:Int) (h:Qin N p0 p1=some r):Spec prog 87 [(.agg (Qgv p0)),(.dat 1 (p1.map Qag))] [] (I r) []:=by
  refine sA func87 0 fun _ _ _ hq hd0=>?_
  unfold Qin at h
  refine wxz ?_
  obtain⟨k1,hk_k1,h⟩:=jko h
  refine wjn (τ:=Unit) (fun t=>k1 t=some r) (fun _=>⟨mk 30 [(1,(Qu4 p1)),(2,.ref 0 2 0 0)],[(Qxm p0)]⟩) (fun t h=>?_) ?_
  ·subst hk_k1
   obtain⟨k2,hk_k2,h⟩:=jko h
   refine wjn (τ:=Unit) (fun t=>k2 t=some r) (fun _=>⟨mk 30 [],[]⟩) (fun t h=>?_) ?_
   ·subst hk_k2
    refine wxz<|Qai ?_
    obtain rfl:=osi h
    exact fend ⟨[I 0],⟨rot,tv⟩,rfl⟩ nll
   ·skip
    refine wxz<|Qam ?_
    refine wmr (mto (n:=30) (l':=[(1,(Qu4 p1)),(2,.ref 0 2 0 0),(5,I 0)]) (own':=[(Qxm p0)]) [(1,(Qu4 p1)),(2,.ref 0 2 0 0),(5,I 0)] [0] [(Qxm p0)] hq (pc (rnd Qak) (prr (pw pn))) (qb (lc (rnd Qao) (lc (rnd Qac) ln)) qn)) ?_
    refine Qbl (τ:=Int) (fun n t=>Qda N p0 p1 k2 n t=some r) (fun y3=>⟨mk 30 [(1,(Qu4 p1)),(2,.ref 0 2 0 0),(5,I y3)],[(Qxm p0)]⟩) (fun t h=>by rw[Qda] at h;cases h) (fun n5 ih y3 h=>?_) N (0) h
    rw[Qda] at h
    skip
    refine wsq<|wx tbk [(2,rp _ _)] ⟨alq 1 Qag p1 underlying49,tv⟩ ?_
    refine bfe h (fun hc6 h=>?_) fun hc6 h=>?_
    ·refine wft hc6<|Qal<|thn<|wsq<|Qam ?_
     obtain⟨x7,hg8,h⟩:=bno h
     obtain⟨hi9,hj10⟩:=gsm hg8
     obtain⟨x12,hf11,h⟩:=bno h
     refine wxd tbk [(3,rp _ _),(5,rp _ _)] ⟨aiq underlying49 ti28 Qag hi9 hj10,apw Zn4 (Qqp N p0 x7 _ hf11),tv⟩<|wxz ?_
     refine bfe h (fun hc13 h=>?_) fun hc13 h=>?_
     ·refine wft hc13<|wxz<|Qai<|Qar<|Qaj<|Qaj<|Qar<|Qaj ?_
      obtain rfl:=osi h
      exact fend ⟨[I x12],⟨rot,tv⟩,rfl⟩ nll
     ·exact wfn hc13<|Qal<|bln<|thn<|wxz1<|thn<|arm (mto (n:=30) [(1,(Qu4 p1)),(2,.ref 0 2 0 0),(5,(I (w64 (y3+1))))] [0] [(Qxm p0)] hq (pc (rnd Qak) (prr (pw pn))) (qb (lc (rnd Qao) (lc (rnd Qac) ln)) qn)) (ih (w64 (y3+1)) h)
    ·exact wfn hc6<|Qa6<|Qau<|Qau<|Qa5 rfl<|thn<|⟨(),h,(mto (n:=30) [] [] [] hq pn qn)⟩
  ·skip
   refine bfe h (fun hb14 h=>?_) fun hb14 h=>?_
   ·refine wx tbk [(1,rp _ _),(3,rp [(.tmp 9,(B ((decide ((p1.length:Int)<1)))))] (B true))] ⟨alq 1 Qag p1 underlying49,asb hb14 (amv rfl),tv⟩<|wtr<|wxz<|Qai<|Qaj ?_
    obtain rfl:=osi h
    exact fend ⟨[I 3],⟨rot,tv⟩,rfl⟩ nll
   ·refine wx tbk [(1,rp _ _),(3,rp [(.tmp 9,(B ((decide ((p1.length:Int)<1)))))] (B false)),(5,rp [(.tmp 10,B false),(.tmp 11,(Qu4 p1))] (I ((p1.length:Int))))] ⟨alq 1 Qag p1 underlying49,asb hb14 (amv rfl),ag_ (alq 1 Qag p1 underlying49),tv⟩ ?_
    refine bfe h (fun hc15 h=>?_) fun hc15 h=>?_
    ·refine wft hc15<|wxz<|Qai<|Qaj ?_
     obtain rfl:=osi h
     exact fend ⟨[I 3],⟨rot,tv⟩,rfl⟩ nll
    ·exact wfn hc15<|Qal<|thn<|⟨(),h,(mto (n:=30) [(1,(Qu4 p1)),(2,.ref 0 2 0 0)] [0] [(Qxm p0)] hq (pc (rnd Qak) (prr pn)) (qb (lc (rnd Qao) (lc (rnd Qac) ln)) qn))⟩
def Qj3 (N:Nat) (p0:GNet) (p1:List Int) (p2:List (List Qaa)):Option Int:=
  (Qje N p0).bind fun x2=>
  bif (!x2) then
   some 1
  else
   (Qhl N p0 p1).bind fun x5=>
   bif (!x5) then
    some 1
   else
    (Qin N p0 p2).bind fun x8=>
    some x8
def Zkq (p0:GNet):AV:=.agg [(.dat 5 (p0.Table.map Qap)),(.dat 7 (p0.Elements.map Qae))]
def Zbe (p0:GNet) (x2:Bool):List (Nat×Rec):=[(1,rp [fu 28,((.tmp 7),(Zkq p0))] (B x2))]
theorem Que (N:Nat) (p0:GNet) (p1:List Int) (p2:List (List Qaa)) (r:Int) (h:Qj3 N p0 p1 p2=some r):Spec prog 43 [(.agg (Qgv p0)),(.dat 1 (p1.map Qab)),(.dat 1 (p2.map Qag))] [] (I r) []:=by
  refine sA func43 0 fun _ _ _ hq hd0=>?_
  unfold Qj3 at h
  refine wxz<|wsq ?_
  obtain⟨x2,hf1,h⟩:=bno h
  refine hpre (A:=(Zbe p0 x2)) ⟨apw Zef (Qo2 N p0 _ hf1),tv⟩ fun q1_=>?_
  refine bfe h (fun hb3 h=>?_) fun hb3 h=>?_
  ·refine wx tbk (hcat (Zbe p0 x2) [(3,rp [(.tmp 9,(B ((!x2))))] (B true))]) (hap q1_ ⟨asb hb3 (amv rfl),tv⟩)<|wtr<|wxz<|Qai<|Qaj ?_
   obtain rfl:=osi h
   exact fend ⟨[I 1],⟨rot,tv⟩,rfl⟩ nll
  ·obtain⟨x5,hf4,h⟩:=bno h
   refine wx tbk (hcat (Zbe p0 x2) [(3,rp [(.tmp 9,(B ((!x2))))] (B false)),(6,rp [(.tmp 10,B false),fu 33,(.tmp 11,(Zkq p0)),(.tmp 12,(.dat 1 (p1.map Qab)))] (B x5))]) (hap q1_ ⟨asb hb3 (amv rfl),ag_ (apw Zoi (Qpx N p0 p1 _ hf4)),tv⟩) ?_
   refine bfe h (fun hc6 h=>?_) fun hc6 h=>?_
   ·refine wft hc6<|wxz<|Qai<|Qaj ?_
    obtain rfl:=osi h
    exact fend ⟨[I 1],⟨rot,tv⟩,rfl⟩ nll
   ·refine wfn hc6<|Qal<|thn ?_
    obtain⟨x8,hf7,h⟩:=bno h
    refine wx tbk [(2,rp _ _)] ⟨apw Znr (Qpy N p0 p2 _ hf7),tv⟩<|Qai ?_
    obtain rfl:=osi h
    exact fend ⟨[I x8],⟨rot,tv⟩,rfl⟩ nll
def Qc8 (N:Nat) (y6:Int) (k14:Int×Int→Option (Int×Int×Bool)) (x20:(Qe4×Int×Int)):Nat→Int→Int→Int→Option (Int×Int×Bool)
  |0,_,_,_=>none
  |n28+1,y22,y23,y24=>
    bif (decide (y24<(x20.1.Lost.length:Int))) then
     bif (decide (y22<0)) then
      (getI x20.1.Lost y24).bind fun x31=>
      bif (decide (x31.Scale>0)) then
       Qc8 N y6 k14 x20 n28 y6 y24 (w64 (y24+1))
      else
       Qc8 N y6 k14 x20 n28 y22 y23 (w64 (y24+1))
     else
      Qc8 N y6 k14 x20 n28 y22 y23 (w64 (y24+1))
    else
     k14 (y22,y23)
def Qcs (N:Nat) (p0:GNet) (p1:List Int) (p2:List (List Qaa)) (k3:Int×Int→Option (Int×Int×Bool)):Nat→Int→Int→Int→Option (Int×Int×Bool)
  |0,_,_,_=>none
  |n10+1,y4,y5,y6=>
    bif (decide (y6<(p2.length:Int))) then
     Qbc (fun ⟨y12,y13⟩=>
       Qcs N p0 p1 p2 k3 n10 y12 y13 (w64 (y6+1))) fun k14:Int×Int→Option (Int×Int×Bool)=>
     (getI p2 y6).bind fun x15=>
     (Ql7 N p0 p1 x15).bind fun x20=>
     bif (decide (x20.2.2≥0)) then
      some (0,0,false)
     else
      Qc8 N y6 k14 x20 N y4 y5 0
    else
     k3 (y4,y5)
def Qjv (N:Nat) (p0:GNet) (p1:List Int) (p2:List (List Qaa)):Option (Int×Int×Bool):=
  Qbc (fun ⟨y1,y2⟩=>
    some (y1,y2,true)) fun k3:Int×Int→Option (Int×Int×Bool)=>
  Qcs N p0 p1 p2 k3 N (-1) (-1) 0
def Qof (p2:List (List Qaa)):AV:=.dat 1 (p2.map Qag)
def Zqh (p0:GNet):AV:=.dat 7 (p0.Elements.map Qae)
def Qog (p0:GNet):Slot:=.own 2 [[(.dat 5 (p0.Table.map Qap)),(Zqh p0)]]
def Qsm (x20:(Qe4×Int×Int)):Slot:=.own 3 [[(.dat 1 (x20.1.Out.map Qag)),(.dat 4 (x20.1.Lost.map Qat)),(.dat 1 (x20.1.State.map Qab))]]
theorem Qud (N:Nat) (p0:GNet) (p1:List Int) (p2:List (List Qaa)) (r:(Int×Int×Bool)) (h:Qjv N p0 p1 p2=some r):Spec prog 45 [(.agg (Qgv p0)),(.dat 1 (p1.map Qab)),(.dat 1 (p2.map Qag))] [] (.tup [(I r.1),(I r.2.1),(B r.2.2)]) []:=by
  refine sA func45 0 fun _ _ _ hq hd0=>?_
  unfold Qjv at h
  refine wxz<|wxz ?_
  obtain⟨k3,hk_k3,h⟩:=jko h
  refine wjn (τ:=Int×Int) (fun t=>k3 t=some r) (fun ⟨y1,y2⟩=>⟨mk 57 [(9,I y1),(10,I y2)],[]⟩) (fun t h=>?_) ?_
  ·subst hk_k3
   obtain⟨y1,y2⟩:=t
   refine wxz<|Qai ?_
   obtain rfl:=osi h
   exact fie [I y1,I y2,B true] ⟨rot,rot,rot,tv⟩
  ·skip
   refine wxz<|Qam ?_
   refine wmr (mto (n:=57) (l':=[(1,(.dat 1 (p1.map Qab))),(2,(Qof p2)),(3,.ref 0 2 0 0),(9,(I ((-1)))),(10,(I ((-1)))),(11,I 0)]) (own':=[(Qog p0)]) [(1,(.dat 1 (p1.map Qab))),(2,(Qof p2)),(3,.ref 0 2 0 0),(9,(I ((-1)))),(10,(I ((-1)))),(11,I 0)] [0] [(Qog p0)] hq (pc (rnd Qah) (pc (rnd Qak) (prr (pw (pw (pw pn)))))) (qb (lc (rnd Qao) (lc (rnd Qac) ln)) qn)) ?_
   refine Qbl (τ:=Int×Int×Int) (fun n t=>Qcs N p0 p1 p2 k3 n t.1 t.2.1 t.2.2=some r) (fun ⟨y4,y5,y6⟩=>⟨mk 57 [(1,(.dat 1 (p1.map Qab))),(2,(Qof p2)),(3,.ref 0 2 0 0),(9,I y4),(10,I y5),(11,I y6)],[(Qog p0)]⟩) (fun t h=>by rw[Qcs] at h;cases h) (fun n10 ih t h=>?_) N ((-1),(-1),0) h
   obtain⟨y4,y5,y6⟩:=t
   rw[Qcs] at h
   skip
   refine wsq<|wx tbk [(2,rp _ _)] ⟨alq 1 Qag p2 underlying49,tv⟩ ?_
   refine bfe h (fun hc11 h=>?_) fun hc11 h=>?_
   ·refine wft hc11<|Qal<|thn ?_
    obtain⟨k14,hk_k14,h⟩:=jko h
    refine wjn (τ:=Int×Int) (fun t=>k14 t=some r) (fun ⟨y12,y13⟩=>⟨mk 57 [(1,(.dat 1 (p1.map Qab))),(2,(Qof p2)),(3,.ref 0 2 0 0),(9,I y12),(10,I y13),(11,I y6)],[(Qog p0)]⟩) (fun t h=>?_) ?_
    ·subst hk_k14
     obtain⟨y12,y13⟩:=t
     exact wxz1<|thn<|arm (mto (n:=57) [(1,(.dat 1 (p1.map Qab))),(2,(Qof p2)),(3,.ref 0 2 0 0),(9,I y12),(10,I y13),(11,(I (w64 (y6+1))))] [0] [(Qog p0)] hq (pc (rnd Qah) (pc (rnd Qak) (prr (pw (pw (pw pn)))))) (qb (lc (rnd Qao) (lc (rnd Qac) ln)) qn)) (ih (y12,y13,w64 (y6+1)) h)
    ·skip
     refine Qam ?_
     obtain⟨x15,hg16,h⟩:=bno h
     obtain⟨hi17,hj18⟩:=gsm hg16
     obtain⟨x20,hf19,h⟩:=bno h
     refine wxd tbk [(4,rp _ _),(6,rp _ _)] ⟨aiq underlying49 ti28 Qag hi17 hj18,apw Zeg (Qtr N p0 p1 x15 _ hf19),tv⟩<|wsq<|wxz ?_
     refine bfe h (fun hc21 h=>?_) fun hc21 h=>?_
     ·refine wft hc21<|wxz<|Qai<|Qaj<|Qar<|Qaj<|Qaj<|Qar<|Qaj ?_
      obtain rfl:=osi h
      exact fie [I 0,I 0,B false] ⟨rot,rot,rot,tv⟩
     ·refine wfn hc21<|Qal<|thn<|wxz<|Qam ?_
      refine wmr (mto (n:=57) (l':=[(1,(.dat 1 (p1.map Qab))),(2,(Qof p2)),(3,.ref 0 2 0 0),(9,I y4),(10,I y5),(11,I y6),(12,.ref 1 3 0 0),(15,I 0)]) (own':=[(Qog p0),(Qsm x20)]) [(1,(.dat 1 (p1.map Qab))),(2,(Qof p2)),(3,.ref 0 2 0 0),(9,I y4),(10,I y5),(11,I y6),(12,.ref 1 3 0 0),(15,I 0)] [0,1] [(Qog p0),(Qsm x20)] hq (pc (rnd Qah) (pc (rnd Qak) (prr (pw (pw (pw (prr (pw pn)))))))) (qb (lc (rnd Qao) (lc (rnd Qac) ln)) (qb (lc (rnd Qak) (lc (rnd Qa7) (lc (rnd Qah) ln))) qn))) ?_
      refine Qbl (τ:=Int×Int×Int) (fun n t=>Qc8 N y6 k14 x20 n t.1 t.2.1 t.2.2=some r) (fun ⟨y22,y23,y24⟩=>⟨mk 57 [(1,(.dat 1 (p1.map Qab))),(2,(Qof p2)),(3,.ref 0 2 0 0),(9,I y22),(10,I y23),(11,I y6),(12,.ref 1 3 0 0),(15,I y24)],[(Qog p0),(Qsm x20)]⟩) (fun t h=>by rw[Qc8] at h;cases h) (fun n28 ih t h=>?_) N (y4,y5,0) h
      obtain⟨y22,y23,y24⟩:=t
      rw[Qc8] at h
      skip
      refine wsq<|wx tbk [(3,rp _ _)] ⟨alq 4 Qat x20.1.Lost underlying50,tv⟩ ?_
      refine bfe h (fun hc29 h=>?_) fun hc29 h=>?_
      ·refine wft hc29<|Qal<|thn<|wsq<|Qam ?_
       refine bfe h (fun hb30 h=>?_) fun hb30 h=>?_
       ·obtain⟨x31,hg32,h⟩:=bno h
        obtain⟨hi33,hj34⟩:=gsm hg32
        refine wx tbk [(2,rp [(.tmp 43,(B ((decide (y22<0)))))] (B true)),(6,rp [(.tmp 44,B true),(.tmp 46,(.dat 4 (x20.1.Lost.map Qat))),(.tmp 47,I y24)] (.dptr (Qat x31) 0))] ⟨asb hb30 (amv rfl),ag_ (aiq underlying50 ti90 Qat hi33 hj34),tv⟩ ?_
        refine bfe h (fun hc35 h=>?_) fun hc35 h=>?_
        ·exact wft hc35<|wxz1<|bln<|thn<|wxz1<|thn<|arm (mto (n:=57) [(1,(.dat 1 (p1.map Qab))),(2,(Qof p2)),(3,.ref 0 2 0 0),(9,I y6),(10,I y24),(11,I y6),(12,.ref 1 3 0 0),(15,(I (w64 (y24+1))))] [0,1] [(Qog p0),(Qsm x20)] hq (pc (rnd Qah) (pc (rnd Qak) (prr (pw (pw (pw (prr (pw pn)))))))) (qb (lc (rnd Qao) (lc (rnd Qac) ln)) (qb (lc (rnd Qak) (lc (rnd Qa7) (lc (rnd Qah) ln))) qn))) (ih (y6,y24,w64 (y24+1)) h)
        ·exact wfn hc35<|Qal<|bln<|thn<|wxz1<|thn<|arm (mto (n:=57) [(1,(.dat 1 (p1.map Qab))),(2,(Qof p2)),(3,.ref 0 2 0 0),(9,I y22),(10,I y23),(11,I y6),(12,.ref 1 3 0 0),(15,(I (w64 (y24+1))))] [0,1] [(Qog p0),(Qsm x20)] hq (pc (rnd Qah) (pc (rnd Qak) (prr (pw (pw (pw (prr (pw pn)))))))) (qb (lc (rnd Qao) (lc (rnd Qac) ln)) (qb (lc (rnd Qak) (lc (rnd Qa7) (lc (rnd Qah) ln))) qn))) (ih (y22,y23,w64 (y24+1)) h)
       ·exact wx tbk [(2,rp [(.tmp 43,(B ((decide (y22<0)))))] (B false))] ⟨asb hb30 (amv rfl),tv⟩<|wfa<|Qal<|bln<|thn<|wxz1<|thn<|arm (mto (n:=57) [(1,(.dat 1 (p1.map Qab))),(2,(Qof p2)),(3,.ref 0 2 0 0),(9,I y22),(10,I y23),(11,I y6),(12,.ref 1 3 0 0),(15,(I (w64 (y24+1))))] [0,1] [(Qog p0),(Qsm x20)] hq (pc (rnd Qah) (pc (rnd Qak) (prr (pw (pw (pw (prr (pw pn)))))))) (qb (lc (rnd Qao) (lc (rnd Qac) ln)) (qb (lc (rnd Qak) (lc (rnd Qa7) (lc (rnd Qah) ln))) qn))) (ih (y22,y23,w64 (y24+1)) h)
      ·exact wfn hc29<|Qa6<|Qau<|Qau<|Qa5 rfl<|bln<|thn<|⟨(y22,y23),h,(mto (n:=57) [(1,(.dat 1 (p1.map Qab))),(2,(Qof p2)),(3,.ref 0 2 0 0),(9,I y22),(10,I y23),(11,I y6)] [0] [(Qog p0)] hq (pc (rnd Qah) (pc (rnd Qak) (prr (pw (pw (pw pn)))))) (qb (lc (rnd Qao) (lc (rnd Qac) ln)) qn))⟩
   ·exact wfn hc11<|Qa6<|Qau<|Qau<|Qa5 rfl<|thn<|⟨(y4,y5),h,(mto (n:=57) [(9,I y4),(10,I y5)] [] [] hq (pw (pw pn)) qn)⟩
end
section
open Go.RowKit
theorem Q85 (N:Nat) (l:List (List Qaa)) (k:List (List Qaa)→Option (List (List Qaa))) (hN:1001≤N) (hl:l.length≤1000) (hc:∀c∈l,c.length≤1000):∀(m i:Nat) (acc:List (List Qaa)),(l.drop i).length<m→acc.length=i→Qe0 N l k m acc i=k (acc++l.drop i):=by
 intro m
 induction m with
 |zero=>intro i _ h;cases h
 |succ m ih=>
  intro i acc h ha
  rw[Qe0]
  cases hd:l.drop i with
  |nil=>
   have:=Qbs hd
   simp[show ¬((i:Int)<l.length) from by omega]
  |cons p q=>
   obtain⟨hg,hd',hlt⟩:=Qbf hd
   simp only[dlI hlt,cond_true,Qbu hg,Option.bind_some,Q8d (hc p (List.mem_of_getElem? hg)) hN,chk]
   rw[show decide ((acc.length+[p].length)*24≤140737488355328)=true by simp;omega,cond_true,w64S (i:=i) (by omega),
    ih (i+1) _ (dlt hd hd' h) (by simp[ha]),hd',List.append_assoc]
   rfl
theorem Zi6 {N:Nat}{l:List (List Qaa)}(hN:1001≤N) (hl:l.length≤1000) (hc:∀c∈l,c.length≤1000):Qla N l=some l:=by
 unfold Qla
 rw[Qei]
 refine(Q85 N l _ hN hl hc N 0 [] (by simp;omega) rfl).trans ?_
 rw[List.drop_zero,List.nil_append]
theorem Zd2 (N:Nat) (l:List (List Qaa)) (k:Unit→Option Bool) (hl:l.length≤9223372036854775807):∀(m i:Nat),(l.drop i).length<m→Qe6 N k l m i=bif (l.drop i).all (fun c=>decide (c.length≤25)) then k () else some false:=by
 intro m
 induction m with
 |zero=>intro i h;cases h
 |succ m ih=>
  intro i h
  rw[Qe6]
  cases hd:l.drop i with
  |nil=>
   have:=Qbs hd
   simp[show ¬((i:Int)<l.length) from by omega]
  |cons p q=>
   obtain⟨hg,hd',hlt⟩:=Qbf hd
   simp only[dlI hlt,cond_true,Qbu hg,Option.bind_some,List.all_cons]
   by_cases hp:p.length≤25
   ·rw[decide_eq_false (show ¬((p.length:Int)>25) by omega),decide_eq_true hp,cond_false,Bool.true_and,w64S (i:=i) (by omega),ih (i+1) (dlt hd hd' h),hd']
   ·rw[decide_eq_true (show(p.length:Int)>25 by omega),decide_eq_false hp]
    rfl
theorem Znj {N:Nat}{n:GNet}{l:List (List Qaa)}(hn:(n.Elements.length:Int)≤9223372036854775807) (hl:l.length≤9223372036854775807) (hN:n.Elements.length+1001≤N) (hN2:l.length<N):Qlw N n l=some false∨(Qlw N n l=some true∧Qik n∧l.length≤8∧∀c∈l,c.length≤25):=by
 unfold Qlw
 rw[Qei]
 have hloop:=fun k=>Zd2 N l k hl N 0 (by simp;omega)
 simp only[List.drop_zero] at hloop
 rw[show ∀k,Qe6 N k l N 0=_ from hloop]
 cases ha:l.all (fun c=>decide (c.length≤25)) with
 |false=>exact .inl rfl
 |true=>
  rw[cond_true]
  rcases Zru (N:=N) (n:=n) (ws:=[]) hn (by omega) with e |⟨e,hs,_⟩
  ·rw[e];exact .inl rfl
  ·rw[e,Option.bind_some,cond_true]
   by_cases h8:l.length≤8
   ·rw[decide_eq_true (show(l.length:Int)≤8 by omega)]
    exact .inr ⟨rfl,hs,h8,fun c hc=>by simpa using List.all_eq_true.1 ha c hc⟩
   ·rw[decide_eq_false (show ¬((l.length:Int)≤8) by omega)]
    exact .inl rfl
def Q2a (n:GNet):List (List Qaa)→Int
 |[]=>0
 |c::l=>if fedI n c=0 then Q2a n l else fedI n c
def Qj5 (n:GNet) (st:List Int) (l:List (List Qaa)):Int:=bif netB n&&stB n st then(bif btw l.length 1 6 then Q2a n l else 3) else 1
section
variable {N : Nat} {n : GNet} (hs : Qik n) (hN : 1001 ≤ N) {l : List (List Qaa)} (hl : l.length ≤ 1000) (hc : ∀ c ∈ l, c.length ≤ 1000)
include hs hN hl hc
theorem Q4c (k:Unit→Option Int) (hk:k ()=some 0):∀(m i:Nat),(l.drop i).length<m→Qfg N n l k m i=some (Q2a n (l.drop i)):=by
 intro m
 induction m with
 |zero=>intro i h;cases h
 |succ m ih=>
  intro i h
  rw[Qfg]
  cases hd:l.drop i with
  |nil=>
   have:=Qbs hd
   rw[decide_eq_false (show ¬((i:Int)<(l.length:Int)) by omega),cond_false,hk]
   rfl
  |cons p q=>
   obtain⟨hg,hd',hlt⟩:=Qbf hd
   simp only[dlI hlt,cond_true,Qbu hg,Option.bind_some,Zrv hs hN (hc p (List.mem_of_getElem? hg))]
   rw[w64S (i:=i) (by omega),ih (i+1) (dlt hd hd' h),hd',Q2a]
   by_cases h0:fedI n p=0
   ·rw[h0,if_pos rfl];rfl
   ·rw[if_neg h0,show(fedI n p != 0)=true by simpa using h0,cond_true]
theorem Zhg {st:List Int}(hl2:st.length≤1000):Ql9 N n st l=some (Qj5 n st l):=by
 unfold Ql9 Qj5
 rw[Zce hs hN hl2,Option.bind_some]
 cases netB n&&stB n st with
 |false=>rfl
 |true=>
  rw[cond_true,cond_true,bne_self_eq_false,cond_false,Qkd,Option.bind_some]
  cases btw (l.length:Int) 1 6 with
  |false=>rfl
  |true=>
   rw[Bool.not_true,cond_false,Qei,cond_true]
   refine(Q4c hs hN hl hc _ rfl N 0 (by simp;omega)).trans ?_
   rw[List.drop_zero]
theorem Q2b (k:Unit→Option Int) (hk:k ()=some 0):∀(m i:Nat),(l.drop i).length<m→Qda N n l k m i=some (Q2a n (l.drop i)):=by
 intro m
 induction m with
 |zero=>intro i h;cases h
 |succ m ih=>
  intro i h
  rw[Qda]
  cases hd:l.drop i with
  |nil=>
   have:=Qbs hd
   rw[decide_eq_false (show ¬((i:Int)<(l.length:Int)) by omega),cond_false,hk]
   rfl
  |cons p q=>
   obtain⟨hg,hd',hlt⟩:=Qbf hd
   simp only[dlI hlt,cond_true,Qbu hg,Option.bind_some,Q2n hs hN (hc p (List.mem_of_getElem? hg))]
   rw[w64S (i:=i) (by omega),ih (i+1) (dlt hd hd' h),hd',Q2a]
   by_cases h0:fedI n p=0
   ·rw[h0,if_pos rfl];rfl
   ·rw[if_neg h0,show(fedI n p != 0)=true by simpa using h0,cond_true]
theorem Zd3 {st:List Int}(hl2:st.length≤1000):Qj3 N n st l=some (Qj5 n st l):=by
 unfold Qj3 Qj5
 rw[Zdc hs hN,Option.bind_some]
 cases netB n with
 |false=>rfl
 |true=>
  rw[Bool.not_true,cond_false,Q8j (n:=n) hl2 hN,Option.bind_some]
  cases stB n st with
  |false=>rfl
  |true=>
   rw[Bool.not_true,cond_false]
   unfold Qin btw
   rw[Qei]
   by_cases h1:(l.length:Int)<1
   ·rw[decide_eq_true h1,decide_eq_false (show ¬1≤(l.length:Int) by omega)];rfl
   ·rw[decide_eq_false h1,decide_eq_true (show 1≤(l.length:Int) by omega),cond_false]
    by_cases h6:(l.length:Int)>6
    ·rw[decide_eq_true h6,decide_eq_false (show ¬(l.length:Int)≤6 by omega)];rfl
    ·rw[decide_eq_false h6,decide_eq_true (show(l.length:Int)≤6 by omega),cond_false,Qei]
     have:=Q2b hs hN hl hc (fun _=>some 0) rfl N 0 (by simp;omega)
     rw[List.drop_zero] at this
     exact congrArg (fun o:Option Int=>o.bind fun x8=>some x8) this
end
def Ql3 (n:GNet) (c:List Qaa) (r:Q25):Qds:=⟨n,⟨r.1,r.2.1,r.2.2.1⟩,c,r.2.2.2⟩
def Qki (n:GNet) (st:List Int):List (List Qaa)→Option (List Qds)
 |[]=>some []
 |c::l=>Qug (Qvd n st c) (fun _=>none) (fun r=>(Qki n st l).map (Ql3 n c r :: ·))
theorem Q61 {n:GNet}:∀{l:List (List Qaa)},Q2a n l=0→∀c∈l,FedV n c
 |[],_,c,h=>by cases h
 |d::l,h0,c,h=>by
  rw[Q2a] at h0
  by_cases hd:fedI n d=0
  ·rw[if_pos hd] at h0
   rcases List.mem_cons.1 h with rfl |h
   ·exact Znk hd
   ·exact Q61 h0 c h
  ·rw[if_neg hd] at h0
   exact absurd h0 hd
def Zos (n:GNet) (st:List Int) (l:List (List Qaa)):List Qds×Bool:=match Qki n st l with |some w=>(w,true) |none=>([],false)
theorem Zem {N:Nat}{n:GNet}(hs:Qik n) (hN:1001≤N) (hv:NetV n) {st:List Int}(hst:StV n st) {l:List (List Qaa)}(hl:l.length≤1000) (hf:∀c∈l,FedV n c):∀(m i:Nat) (acc:List Qds),(l.drop i).length<m→acc.length=i →
  Qde N n st (fun y=>some (y,true)) l m acc i=some (match Qki n st (l.drop i) with |some w=>(acc++w,true) |none=>([],false)):=by
 intro m
 induction m with
 |zero=>intro i _ h;cases h
 |succ m ih=>
  intro i acc h ha
  rw[Qde]
  cases hd:l.drop i with
  |nil=>
   have:=Qbs hd
   rw[decide_eq_false (show ¬((i:Int)<(l.length:Int)) by omega),cond_false,Qki]
   simp
  |cons c q=>
   obtain⟨hg,hd',hlt⟩:=Qbf hd
   have hfc:=hf c (List.mem_of_getElem? hg)
   rw[decide_eq_true (show(i:Int)<(l.length:Int) by omega),cond_true,Qbu hg,Option.bind_some,Zty hs hN hv hfc hst,Qki]
   cases hT:Qvd n st c with
   |inl a=>
    simp only[Qug,Option.bind_some,Sum.elim_inl]
    rw[decide_eq_true (show(a:Int)≥0 by omega),cond_true]
   |inr r=>
    have hR:=Qy7 hv hfc hst hT
    have e1:=hR.inv.lo
    have e2:=hR.inv.ll
    have e0:=Qxq hst
    have e3:r.2.2.1.length=n.Elements.length:=by rw[hR.ss,List.length_zipWith];omega
    simp only[Qug,Option.bind_some,Sum.elim_inr,show decide ((-1:Int)≥0)=false from rfl,cond_false,chk,Int.toNat_natCast]
    rw[show decide (n.Elements.length≤r.1.length)=true by simp;omega,show decide (n.Elements.length≤r.2.1.length)=true by simp;omega,show decide (st.length≤r.2.2.1.length)=true by simp;omega,List.take_of_length_le (by omega),List.take_of_length_le (by omega),List.take_of_length_le (by omega),cond_true,cond_true,cond_true]
    have hih:=ih (i+1) (acc++[Ql3 n c r]) (dlt hd hd' h) (by simp[ha])
    rw[hd'] at hih
    show(bif decide ((acc.length+[Ql3 n c r].length)*8≤140737488355328) then Qde N n st (fun y=>some (y,true)) l m (acc++[Ql3 n c r]) (w64 ((i:Int)+1)) else none)=_
    rw[show decide ((acc.length+[Ql3 n c r].length)*8≤140737488355328)=true by simp;omega,cond_true,w64S (i:=i) (by omega),hih]
    cases Qki n st q with
    |none=>rfl
    |some w=>simp
theorem Zor {N:Nat}{n:GNet}(hs:Qik n) (hN:1001≤N) (hv:NetV n) {st:List Int}(hst:StV n st) {l:List (List Qaa)}(hl:l.length≤1000) (hf:∀c∈l,FedV n c):Qi0 N n st l=some (Zos n st l):=by
 unfold Qi0
 rw[Qei]
 refine(Zem hs hN hv hst hl hf N 0 [] (by simp;omega) rfl).trans ?_
 unfold Zos
 rw[List.drop_zero]
 cases Qki n st l<;>rfl
def fstL:Nat→List Qa1→Option Nat
 |_,[]=>none
 |i,x::l=>if x.Scale>0 then some i else fstL (i+1) l
def unsL:Nat→List Qds→Int×Int
 |_,[]=>(-1,-1)
 |k,w::l=>match fstL 0 w.Tick.Lost with |some i=>((k:Int),(i:Int)) |none=>unsL (k+1) l
end
section
open Go.RowKit
section
variable {N : Nat} {n : GNet} (hs : Qik n) (hN : 1001 ≤ N)
include hs
include hN
end
end
section
open Go.RowKit
def wdR (r:Qlf) (v:Int):Qlf:=⟨if v<r.Lo then v else r.Lo,if v>r.Hi then v else r.Hi⟩
def rngF (f:Qds→Int):List Qds→Qlf
 |[]=>⟨0,0⟩
 |w::l=>l.foldl (fun r x=>wdR r (f x)) ⟨f w,f w⟩
theorem Zgz (f:Qds→Int) {W:List Qds}(h:W≠[]) (x:Qds):rngF f (W++[x])=wdR (rngF f W) (f x):=by
 cases W with
 |nil=>exact absurd rfl h
 |cons w l=>rw[List.cons_append,rngF,rngF,List.foldl_append];rfl
def Has (w:Qds) (p:Qbn):Prop:=∃r,getI w.Tick.Out p.Element=some r∧getI r p.Outlet=some (Qg6 w.Tick.Out p)
def Zrw (p:Qbn) (w:Qds):Int:=(Qg6 w.Tick.Out p).Mass
def Zrx (p:Qbn) (w:Qds):Int:=(Qg6 w.Tick.Out p).Heat
def Zd5 (p:Qbn) (w:Qds):Int:=(Qg6 w.Tick.Out p).Silica
def fGas (p:Qbn) (w:Qds):Int:=(Qg6 w.Tick.Out p).Gas
end
section
open Go.RowKit
theorem Zrr {n:GNet}{ws:List Qaa}{r:Q25}(hI:InvT n ws n.Elements.length r.1 r.2.1) {p:Qbn}(hp:p∈Zop n) (c:List Qaa):Has (Ql3 n c r) p:=by
 obtain⟨h1,h2,q,h3,h4⟩:=Zm8 hI hp
 exact⟨q,by show getI r.1 p.Element=_;unfold getI;rw[if_pos h1,h3],by unfold getI;rw[if_pos h2,h4];rfl⟩
section
variable {N : Nat} {n : GNet} (hs : Qik n) (hN : 1001 ≤ N)
include hs
end
end
section
open Go.RowKit
section
variable {N : Nat} {n : GNet} (hs : Qik n) (hN : 1001 ≤ N) (hv : NetV n) {st : List Int} (hst : StV n st) {l : List (List Qaa)} (hl : l.length ≤ 1000) (hf : ∀ c ∈ l, FedV n c)
include hs hN hv hst hl hf
omit hs hN hv hst hl hf in
theorem Q76 (t:Qe4) (e:Int×Int) (y:Int) (hy:0≤y) (hL:t.Lost.length≤1000) (k:Int×Int→Option (Int×Int×Bool)):∀(m j:Nat) (a b:Int),(t.Lost.drop j).length<m →
  Qc8 N y k (t,e) m a b j=k (if a<0 then(match fstL j (t.Lost.drop j) with |some q=>(y,(q:Int)) |none=>(a,b)) else(a,b)):=by
 intro m
 induction m with
 |zero=>intro j _ _ h;cases h
 |succ m ih=>
  intro j a b h
  rw[Qc8]
  cases hd:t.Lost.drop j with
  |nil=>
   have:=Qbs hd
   rw[decide_eq_false (show ¬((j:Int)<(t.Lost.length:Int)) by omega),cond_false,fstL]
   split<;>rfl
  |cons x q=>
   obtain⟨hg,hd',hlt⟩:=Qbf hd
   have hlen:(t.Lost.drop (j+1)).length<m:=by rw[hd'];rw[hd] at h;simp at h;omega
   rw[decide_eq_true (show(j:Int)<(t.Lost.length:Int) by omega),cond_true,w64S (i:=j) (by omega)]
   by_cases ha:a<0
   ·rw[decide_eq_true ha,cond_true,Qbu hg,Option.bind_some,if_pos ha,fstL]
    by_cases hx:x.Scale>0
    ·rw[decide_eq_true hx,cond_true,ih (j+1) y j hlen,if_neg (by omega),if_pos hx]
    ·rw[decide_eq_false hx,cond_false,ih (j+1) a b hlen,if_pos ha,if_neg hx,hd']
   ·rw[decide_eq_false ha,cond_false,ih (j+1) a b hlen,if_neg ha,if_neg ha]
theorem Zb2 (k:Int×Int→Option (Int×Int×Bool)):∀(m i:Nat) (a b:Int),(l.drop i).length<m→(a<0→a=-1∧b=-1) →
  Qcs N n st l k m a b i=match Qki n st (l.drop i) with |some w=>k (if a<0 then unsL i w else(a,b)) |none=>some (0,0,false):=by
 intro m
 induction m with
 |zero=>intro i _ _ h;cases h
 |succ m ih=>
  intro i a b h hab
  rw[Qcs]
  cases hd:l.drop i with
  |nil=>
   have:=Qbs hd
   rw[decide_eq_false (show ¬((i:Int)<(l.length:Int)) by omega),cond_false,Qki]
   by_cases ha:a<0
   ·obtain⟨rfl,rfl⟩:=hab ha;rfl
   ·simp[ha]
  |cons c q=>
   obtain⟨hg,hd',hlt⟩:=Qbf hd
   have hfc:=hf c (List.mem_of_getElem? hg)
   rw[decide_eq_true (show(i:Int)<(l.length:Int) by omega),cond_true,Qei,Qbu hg,Option.bind_some,Q6f hs hN hv hfc hst,Option.bind_some,Qki]
   cases hT:Qvd n st c with
   |inl a'=>
    dsimp only[Qug]
    show(bif decide ((a':Int)≥0) then _ else _)=_
    rw[decide_eq_true (show(a':Int)≥0 by omega),cond_true]
   |inr r=>
    have hR:=Qy7 hv hfc hst hT
    have hll:=hR.inv.ll
    have e0:=hs.e
    dsimp only[Qug]
    show(bif decide ((-1:Int)≥0) then _ else _)=_
    rw[show decide ((-1:Int)≥0)=false from rfl,cond_false]
    refine(Q76 ⟨r.1,r.2.1,r.2.2.1⟩ _ (i:Int) (by omega) (by dsimp only;omega) _ N 0 a b (by dsimp only;simp;omega)).trans ?_
    have hlen:(l.drop (i+1)).length<m:=by rw[hd'];rw[hd] at h;simp at h;omega
    rw[List.drop_zero]
    by_cases ha:a<0
    ·rw[if_pos ha]
     cases hfi:fstL 0 r.2.1 with
     |some z=>
      have:=ih (i+1) (i:Int) (z:Int) hlen (fun h=>by omega)
      rw[hd'] at this
      show Qcs N n st l k m (i:Int) (z:Int) (w64 ((i:Int)+1))=_
      rw[w64S (i:=i) (by omega),this]
      cases Qki n st q with
      |none=>rfl
      |some w=>
       show k (if (i:Int)<0 then unsL (i+1) w else((i:Int),(z:Int)))=k (if a<0 then unsL i (Ql3 n c r::w) else(a,b))
       rw[if_neg (show ¬(i:Int)<0 by omega),if_pos ha,unsL,show fstL 0 (Ql3 n c r).Tick.Lost=some z from hfi]
     |none=>
      have:=ih (i+1) a b hlen hab
      rw[hd'] at this
      show Qcs N n st l k m a b (w64 ((i:Int)+1))=_
      rw[w64S (i:=i) (by omega),this]
      cases Qki n st q with
      |none=>rfl
      |some w=>
       show k (if a<0 then unsL (i+1) w else(a,b))=k (if a<0 then unsL i (Ql3 n c r::w) else(a,b))
       rw[if_pos ha,if_pos ha,unsL,show fstL 0 (Ql3 n c r).Tick.Lost=none from hfi]
    ·rw[if_neg ha]
     have:=ih (i+1) a b hlen hab
     rw[hd'] at this
     show Qcs N n st l k m a b (w64 ((i:Int)+1))=_
     rw[w64S (i:=i) (by omega),this]
     cases Qki n st q with
     |none=>rfl
     |some w=>
      show k (if a<0 then unsL (i+1) w else(a,b))=k (if a<0 then unsL i (Ql3 n c r::w) else(a,b))
      rw[if_neg ha,if_neg ha]
theorem Zme:Qjv N n st l=some (match Qki n st l with |some w=>((unsL 0 w).1,(unsL 0 w).2,true) |none=>(0,0,false)):=by
 unfold Qjv
 rw[Qei]
 refine(Zb2 hs hN hv hst hl hf _ N 0 (-1) (-1) (by simp;omega) (fun _=>⟨rfl,rfl⟩)).trans ?_
 rw[List.drop_zero]
 cases Qki n st l<;>rfl
end
end
section
open Go.RowKit
theorem Q77 (N:Nat) (y:Int) (w:Qds) (hL:w.Tick.Lost.length≤1000) (k:Unit→Option (Int×Int)):∀(m j:Nat),(w.Tick.Lost.drop j).length<m→Qey N y k w m j=match fstL j (w.Tick.Lost.drop j) with |some q=>some (y,(q:Int)) |none=>k ():=by
 intro m
 induction m with
 |zero=>intro j h;cases h
 |succ m ih=>
  intro j h
  rw[Qey]
  cases hd:w.Tick.Lost.drop j with
  |nil=>
   have:=Qbs hd
   rw[decide_eq_false (show ¬((j:Int)<(w.Tick.Lost.length:Int)) by omega),cond_false,fstL]
  |cons x q=>
   obtain⟨hg,hd',hlt⟩:=Qbf hd
   rw[decide_eq_true (show(j:Int)<(w.Tick.Lost.length:Int) by omega),cond_true,Qbu hg,Option.bind_some,fstL]
   by_cases hx:x.Scale>0
   ·rw[decide_eq_true hx,cond_true,if_pos hx]
   ·rw[decide_eq_false hx,cond_false,if_neg hx,w64S (i:=j) (by omega),ih (j+1) (dlt hd hd' h),hd']
theorem Zb3 {N:Nat}(hN:1001≤N) (W:List Qds) (hl:W.length≤1000) (hL:∀w∈W,w.Tick.Lost.length≤1000):∀(m i:Nat),(W.drop i).length<m→Qez N W (fun _=>some (-1,-1)) m i=some (unsL i (W.drop i)):=by
 intro m
 induction m with
 |zero=>intro i h;cases h
 |succ m ih=>
  intro i h
  rw[Qez]
  cases hd:W.drop i with
  |nil=>
   have:=Qbs hd
   rw[decide_eq_false (show ¬((i:Int)<(W.length:Int)) by omega),cond_false,unsL]
  |cons w q=>
   obtain⟨hg,hd',hlt⟩:=Qbf hd
   have hw:=hL w (List.mem_of_getElem? hg)
   rw[decide_eq_true (show(i:Int)<(W.length:Int) by omega),cond_true,Qei,Qbu hg,Option.bind_some]
   refine(Q77 N (i:Int) w hw _ N 0 (by simp;omega)).trans ?_
   rw[List.drop_zero,unsL]
   cases fstL 0 w.Tick.Lost with
   |some z=>rfl
   |none=>
    dsimp only
    rw[w64S (i:=i) (by omega),ih (i+1) (dlt hd hd' h),hd']
theorem Zmf {N:Nat}(hN:1001≤N) {W:List Qds}(hl:W.length≤1000) (hL:∀w∈W,w.Tick.Lost.length≤1000):Qk9 N W=some (unsL 0 W):=by
 unfold Qk9
 rw[Qei]
 have:=Zb3 hN W hl hL N 0 (by simp;omega)
 rw[List.drop_zero] at this
 exact this
theorem Q2g {n:GNet}(hs:Qik n) (hv:NetV n) {st:List Int}(hst:StV n st):∀{l:List (List Qaa)}{W:List Qds},(∀c∈l,FedV n c)→Qki n st l=some W→W.length=l.length∧∀w∈W,w.Tick.Lost.length≤1000∧∀p∈Zop n,Has w p
 |[],W,_,h=>by rw[Qki] at h;cases h;simp
 |c::l,W,hf,h=>by
  have hfc:=hf c List.mem_cons_self
  rw[Qki] at h
  cases hT:Qvd n st c with
  |inl a=>rw[hT] at h;cases h
  |inr r=>
   rw[hT] at h
   have hR:=Qy7 hv hfc hst hT
   have hll:=hR.inv.ll
   have e0:=hs.e
   have h':(Qki n st l).map (Ql3 n c r :: ·)=some W:=h
   rw[Option.map_eq_some_iff] at h'
   obtain⟨W',h1,rfl⟩:=h'
   obtain⟨a,b⟩:=Q2g hs hv hst (fun d hd=>hf d (List.mem_cons_of_mem _ hd)) h1
   refine⟨by simp[a],fun w hw=>?_⟩
   rcases List.mem_cons.1 hw with rfl |hw
   ·exact⟨by show r.2.1.length≤1000;omega,fun p hp=>Zrr hR.inv hp c⟩
   ·exact b w hw
theorem Qwc {n:GNet}{st:List Int}{l:List (List Qaa)}(h:Qj5 n st l=0):NetV n∧StV n st∧(∀c∈l,FedV n c)∧1≤l.length:=by
 unfold Qj5 at h
 cases hb:netB n&&stB n st with
 |false=>rw[hb] at h;cases h
 |true=>
  rw[hb,cond_true] at h
  rw[Bool.and_eq_true] at hb
  cases h6:btw (l.length:Int) 1 6 with
  |false=>rw[h6] at h;cases h
  |true=>
   rw[h6,cond_true] at h
   have:=Qf3.1 h6
   exact⟨Qv3 hb.1,Zrb hb.2,Q61 h,by omega⟩
section
variable {N : Nat} {n : GNet} (hs : Qik n) (hN : 1001 ≤ N) {l : List (List Qaa)} (hl : l.length ≤ 1000) (hc : ∀ c ∈ l, c.length ≤ 1000) {st : List Int} (hl2 : st.length ≤ 1000)
include hs hN hl hc hl2
end
end
section
open Go.RowKit
structure StT (n:GNet) (st:List Int) (t:Nat):Prop where
 len:st.length=n.Elements.length
 bd:∀d∈st,0≤d∧d≤1000000000000+10000000000*(t:Int)
theorem StT.v {n:GNet}{st:List Int}{t:Nat}(h:StT n st t) (ht:t≤1000):StV n st:=
 ⟨h.len,fun d hd=>by have:=h.bd d hd;omega⟩
section
variable {N : Nat} {n : GNet} (hs : Qik n) (hN : 1001 ≤ N) (hv : NetV n) {ws : List Qaa} (hf : FedV n ws) {most : Nat} (hm : most ≤ 1000)
include hs hN hv hf hm
end
end
section
set_option maxRecDepth 100000
set_option maxHeartbeats 4000000
open Go.RowKit
end
section
open Go.RowKit
structure InC (s:Qaa) (W:List Qds) (p:Qbn):Prop where
 m:(rngF (Zrw p) W).Lo≤s.Mass∧s.Mass≤(rngF (Zrw p) W).Hi
 h:(rngF (Zrx p) W).Lo≤s.Heat∧s.Heat≤(rngF (Zrx p) W).Hi
 q:(rngF (Zd5 p) W).Lo≤s.Silica∧s.Silica≤(rngF (Zd5 p) W).Hi
 g:(rngF (fGas p) W).Lo≤s.Gas∧s.Gas≤(rngF (fGas p) W).Hi
theorem Q2h {n:GNet}{st:List Int}:∀{l:List (List Qaa)}{W:List Qds},Qki n st l=some W→W.length=l.length∧∀(i:Nat) c,l[i]? = some c→∃r,Qvd n st c=.inr r∧W[i]? = some (Ql3 n c r)
 |[],W,h=>by rw[Qki] at h;cases h;exact⟨rfl,fun i c h=>by simp at h⟩
 |d::l,W,h=>by
  rw[Qki] at h
  cases hT:Qvd n st d with
  |inl a=>rw[hT] at h;cases h
  |inr r=>
   rw[hT] at h
   have h':(Qki n st l).map (Ql3 n d r :: ·)=some W:=h
   rw[Option.map_eq_some_iff] at h'
   obtain⟨W',h1,rfl⟩:=h'
   obtain⟨a,b⟩:=Q2h h1
   refine⟨by simp[a],fun i c hc=>?_⟩
   cases i with
   |zero=>simp at hc;subst hc;exact⟨r,hT,rfl⟩
   |succ i=>simp at hc;obtain⟨q,h2,h3⟩:=b i c hc;exact⟨q,h2,by simpa using h3⟩
end
end Go.Proofs.YtmbhnllcfmiajaaGreat
