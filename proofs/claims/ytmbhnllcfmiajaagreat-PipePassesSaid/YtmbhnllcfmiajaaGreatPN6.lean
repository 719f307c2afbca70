/-
  Plain laws on nets: ports and what is valid. No conditions but small sizes.
-/
import Derived.Test.YtmbhnllcfmiajaaGreatPV6
namespace Go.Proofs.YtmbhnllcfmiajaaGreat
open Go.RowKit
def pq (p:GPort):Int×Int:=(p.Element,p.Outlet)
def Qw9 (els:List GElement) (i:Nat) (lv:Int) (u:List (Int×Int)) (p:GPort):Bool:=
 btw p.Element 0 ((i:Int) - 1)&&(match getI els p.Element with | some y=>btw p.Outlet 0 (outl y - 1)&&decide (lv≤y.Level) | none=>false)&&!u.contains (pq p)
def Qg6 (els:List GElement) (i:Nat) (lv:Int):List (Int×Int)→List GPort→Bool
 | _,[]=>true
 | u,p::l=>Qw9 els i lv u p&&Qg6 els i lv (u++[pq p]) l
def Qpi (n:Int) (els:List GElement):Nat→List (Int×Int)→List GElement→Bool
 | _,_,[]=>true
 | i,u,x::l=>btw x.Level 0 (n - 1)&&Qg6 els i x.Level u x.From&&Qpi n els (i+1) (u++x.From.map pq) l
def netB (n:GNet):Bool:=tabB n.Table&&btw n.Elements.length 1 16&&n.Elements.all Qfw&&Qpi n.Table.length n.Elements 0 [] n.Elements
structure Small (n:GNet):Prop where
 t:n.Table.length≤25
 e:n.Elements.length≤18
 x:∀ x ∈ n.Elements,x.From.length≤25∧x.Weights.length≤25
theorem Qzr {x:GElement} (h:x.Weights.length≤25):0≤outl x∧outl x≤25:=by
 unfold outl
 split
 ·omega
 ·split<;>omega
theorem Q9i {els:List GElement} {a:Int} {i:Nat} (h:btw a 0 ((i:Int) - 1)=true) (hi:i≤els.length):∃ y,getI els a=some y∧y ∈ els:=by
 obtain ⟨h1,h2⟩:=Qeq.1 h
 have hlt:a.toNat<els.length:=by omega
 exact ⟨els[a.toNat],by unfold getI; rw [if_pos h1,List.getElem?_eq_getElem hlt],List.getElem_mem hlt⟩
section
variable {N : Nat} {n : GNet} (hs : Small n) (hN : 1001 ≤ N)
include hs hN
omit hN in
theorem Q4g {i:Nat} (hi:i<n.Elements.length) {x:GElement} (hx:x.From.length≤25) (k:List (Int×Int)→Option Bool):∀ (m j:Nat) (u:List (Int×Int)),(x.From.drop j).length<m →
  Qda N n i k x m j u=bif Qg6 n.Elements i x.Level u (x.From.drop j) then k (u++(x.From.drop j).map pq) else some false:=by
 intro m
 induction m with
 | zero=>intro j _ h; exact absurd h (Nat.not_lt_zero _)
 | succ m ih=>
  intro j u h
  rw [Qda]
  cases hd:x.From.drop j with
  | nil=>
   have:=Qcp hd
   simp [show ¬ ((j:Int)<x.From.length) from by omega,Qg6]
  | cons p l=>
   obtain ⟨hg,hd',hlt⟩:=Qb8 hd
   have e0:=hs.e
   simp only [show decide ((j:Int)<x.From.length)=true from by simpa using hlt,cond_true,Qck hg,Option.bind_some,Qjl,Qg6,Qw9]
   rw [Qbd (x:=(i:Int) - 1) (by omega) (by omega)]
   cases hb:btw p.Element 0 ((i:Int) - 1) with
   | false=>rfl
   | true=>
    obtain ⟨y,hy,hym⟩:=Q9i hb (Nat.le_of_lt hi)
    obtain ⟨o0,o1⟩:=Qzr (hs.x y hym).2
    simp only [Bool.not_true,cond_false,hy,Option.bind_some,Ziw,Bool.true_and]
    rw [Qbd (x:=outl y - 1) (by omega) (by omega)]
    cases hc:btw p.Outlet 0 (outl y - 1) with
    | false=>rfl
    | true=>
     simp only [Bool.not_true,cond_false,Bool.true_and]
     show (bif u.contains (pq p) then some false else _)=_
     cases hu:u.contains (pq p) with
     | true=>simp
     | false=>
      simp only [cond_false,Bool.not_false,Bool.and_true]
      by_cases hl:x.Level>y.Level
      ·rw [decide_eq_true hl,decide_eq_false (by omega)]; rfl
      ·rw [decide_eq_false hl,decide_eq_true (by omega),cond_false,Qbd (x:=(j:Int)+1) (by omega) (by omega),show (j:Int)+1=((j+1:Nat):Int) by omega,
        ih (j+1) _ (by rw [hd']; rw [hd] at h; simp at h; omega),hd']
       have ea:addQ u (p.Element,p.Outlet)=u++[pq p]:=by
        unfold addQ
        rw [show u.contains (p.Element,p.Outlet)=false from hu]; rfl
       rw [ea,Bool.true_and,List.map_cons,List.append_assoc]
       rfl
theorem Q9z (k:Unit→Option Bool):∀ (m i:Nat) (u:List (Int×Int)),(n.Elements.drop i).length<m →
  Qcx N n k m i u=bif Qpi n.Table.length n.Elements i u (n.Elements.drop i) then k () else some false:=by
 intro m
 induction m with
 | zero=>intro i _ h; exact absurd h (Nat.not_lt_zero _)
 | succ m ih=>
  intro i u h
  rw [Qcx]
  cases hd:n.Elements.drop i with
  | nil=>
   have:=Qcp hd
   simp [show ¬ ((i:Int)<n.Elements.length) from by omega,Qpi]
  | cons x l=>
   obtain ⟨hg,hd',hlt⟩:=Qb8 hd
   have e0:=hs.e
   have e1:=hs.t
   have hx:=hs.x x (List.mem_of_getElem? hg)
   simp only [show decide ((i:Int)<n.Elements.length)=true from by simpa using hlt,cond_true,Qbp,Qck hg,Option.bind_some,Qjl,Qpi]
   rw [Qbd (x:=(n.Table.length:Int) - 1) (by omega) (by omega)]
   cases hb:btw x.Level 0 ((n.Table.length:Int) - 1) with
   | false=>rfl
   | true=>
    have:=Q4g (N:=N) hs hlt hx.1 (fun y9=>Qcx N n k m (w64 ((i:Int)+1)) y9) N 0 u (by simp; omega)
    rw [List.drop_zero] at this
    simp only [Bool.not_true,cond_false,Bool.true_and]
    refine this.trans ?_
    cases Qg6 n.Elements i x.Level u x.From with
    | false=>rfl
    | true=>
     rw [cond_true,Qbd (x:=(i:Int)+1) (by omega) (by omega),show (i:Int)+1=((i+1:Nat):Int) by omega,ih (i+1) _ (by rw [hd']; rw [hd] at h; simp at h; omega),hd',Bool.true_and]
theorem Zkk:Qdu N n.Elements=some (n.Elements.all Qfw):=by
 have e0:=hs.e
 have hc:Qbg N n.Elements=some (n.Elements.any fun x=>!Qfw x):=by
  unfold Qbg Qb1 Qbp
  have gen:∀ (m j:Nat),(n.Elements.drop j).length<m→(Qay N n.Elements (fun _=>some (-1)) m j).bind (fun x=>some (decide (x≥0)))=some ((n.Elements.drop j).any fun x=>!Qfw x):=by
   intro m
   induction m with
   | zero=>intro j h; exact absurd h (Nat.not_lt_zero _)
   | succ m ih=>
    intro j h
    rw [Qay]
    cases hd:n.Elements.drop j with
    | nil=>
     have:=Qcp hd
     simp [show ¬ ((j:Int)<n.Elements.length) from by omega]
    | cons x l=>
     obtain ⟨hg,hd',hlt⟩:=Qb8 hd
     have hx:=hs.x x (List.mem_of_getElem? hg)
     simp only [show decide ((j:Int)<n.Elements.length)=true from by simpa using hlt,cond_true,Qck hg,Option.bind_some,Qec,Zau (show x.Weights.length≤1000 by omega) hN,List.any_cons]
     cases Qfw x with
     | false=>simp
     | true=>
      rw [Bool.not_true,cond_false,Qbd (x:=(j:Int)+1) (by omega) (by omega),show (j:Int)+1=((j+1:Nat):Int) by omega,ih (j+1) (by rw [hd']; rw [hd] at h; simp at h; omega),hd',Bool.false_or]
  have:=gen N 0 (by simp; omega)
  rw [List.drop_zero] at this
  exact this
 unfold Qdu
 rw [hc,Option.bind_some,Qsq]
theorem Zi6:Qgc N n=some (netB n):=by
 have e0:=hs.e
 have e1:=hs.t
 unfold Qgc netB Qg2
 simp only [Qbp,Qws (show n.Table.length≤1000 by omega) hN,Option.bind_some,Qjl,Zkk hs hN]
 cases tabB n.Table with
 | false=>rfl
 | true=>
  simp only [Bool.not_true,cond_false,Option.bind_some,Bool.true_and,show ((0:Int) != 0)=false from rfl]
  cases btw n.Elements.length 1 16 with
  | false=>rfl
  | true=>
   cases n.Elements.all Qfw with
   | false=>rfl
   | true=>
    have:=Q9z hs hN (fun _=>some true) N 0 [] (by simp; omega)
    rw [List.drop_zero] at this
    simp only [Bool.not_true,cond_false,Bool.true_and]
    refine this.trans ?_
    cases Qpi n.Table.length n.Elements 0 [] n.Elements<;>rfl
omit hs in
theorem Zeq {l:List GPort} (hl:l.length≤1000) (p:GPort):Qiu N l p=some ((l.map pq).contains (pq p)):=by
 unfold Qiu
 simp only [Qbp]
 have gen:∀ (m j:Nat),(l.drop j).length<m→Qd4 N l (fun _=>some false) p m j=some (((l.drop j).map pq).contains (pq p)):=by
  intro m
  induction m with
  | zero=>intro j h; exact absurd h (Nat.not_lt_zero _)
  | succ m ih=>
   intro j h
   rw [Qd4]
   cases hd:l.drop j with
   | nil=>
    have:=Qcp hd
    simp [show ¬ ((j:Int)<l.length) from by omega]
   | cons x q=>
    obtain ⟨hg,hd',hlt⟩:=Qb8 hd
    have hx:(([x.Element,x.Outlet]:List Int)==[p.Element,p.Outlet])=(pq p==pq x):=by
     by_cases h1:x.Element=p.Element
     ·by_cases h2:x.Outlet=p.Outlet
      ·rw [h1,h2,beq_self_eq_true]; simp [pq,h1,h2]
      ·rw [beq_eq_false_iff_ne.2 (by simp [h2]),beq_eq_false_iff_ne.2 (by simp only [pq,ne_eq,Prod.mk.injEq]; omega)]
     ·rw [beq_eq_false_iff_ne.2 (by simp [h1]),beq_eq_false_iff_ne.2 (by simp only [pq,ne_eq,Prod.mk.injEq]; omega)]
    simp only [show decide ((j:Int)<l.length)=true from by simpa using hlt,cond_true,Qck hg,Option.bind_some,hx,List.map_cons,List.contains_cons]
    cases (pq p==pq x) with
    | true=>rfl
    | false=>rw [cond_false,Qbd (x:=(j:Int)+1) (by omega) (by omega),show (j:Int)+1=((j+1:Nat):Int) by omega,ih (j+1) (by rw [hd']; rw [hd] at h; simp at h; omega),hd',Bool.false_or]
 have:=gen N 0 (by simp; omega)
 rw [List.drop_zero] at this
 exact this
theorem Q4f {i:Nat} (hi:i<n.Elements.length) {x:GElement} (hx:x.From.length≤25) (k:List GPort→Option Bool):∀ (m j:Nat) (u:List GPort),(x.From.drop j).length<m→u.length≤25 * i+j →
  Qd5 N n i k x m u j=bif Qg6 n.Elements i x.Level (u.map pq) (x.From.drop j) then k (u++x.From.drop j) else some false:=by
 intro m
 induction m with
 | zero=>intro j _ h; exact absurd h (Nat.not_lt_zero _)
 | succ m ih=>
  intro j u h hu
  rw [Qd5]
  cases hd:x.From.drop j with
  | nil=>
   have:=Qcp hd
   simp [show ¬ ((j:Int)<x.From.length) from by omega,Qg6]
  | cons p l=>
   obtain ⟨hg,hd',hlt⟩:=Qb8 hd
   have e0:=hs.e
   simp only [show decide ((j:Int)<x.From.length)=true from by simpa using hlt,cond_true,Qck hg,Option.bind_some,Qz2,Qg6,Qw9]
   rw [Qbd (x:=(i:Int) - 1) (by omega) (by omega)]
   cases hb:btw p.Element 0 ((i:Int) - 1) with
   | false=>rfl
   | true=>
    obtain ⟨y,hy,hym⟩:=Q9i hb (Nat.le_of_lt hi)
    obtain ⟨o0,o1⟩:=Qzr (hs.x y hym).2
    simp only [Bool.not_true,cond_false,hy,Option.bind_some,Ziv,Bool.true_and]
    rw [Qbd (x:=outl y - 1) (by omega) (by omega)]
    cases hc:btw p.Outlet 0 (outl y - 1) with
    | false=>rfl
    | true=>
     simp only [Bool.not_true,cond_false,Bool.true_and]
     by_cases hl:x.Level>y.Level
     ·rw [decide_eq_true hl,decide_eq_false (show ¬ x.Level≤y.Level by omega)]; rfl
     ·rw [decide_eq_false hl,decide_eq_true (show x.Level≤y.Level by omega),cond_false,Zeq hN (by omega),Option.bind_some]
      cases hu':(u.map pq).contains (pq p) with
      | true=>simp
      | false=>
       simp only [cond_false,chk]
       rw [show decide ((u.length+[p].length) * 16≤140737488355328)=true by simp; omega,cond_true,Qbd (x:=(j:Int)+1) (by omega) (by omega),show (j:Int)+1=((j+1:Nat):Int) by omega,
        ih (j+1) _ (by rw [hd']; rw [hd] at h; simp at h; omega) (by simp; omega),hd',List.map_append,List.append_assoc]
       rfl
def elsR (t:Int) (els:List GElement):Nat→List (Int×Int)→List GElement→Bool
 | _,_,[]=>true
 | i,u,x::l=>Qfw x&&btw x.Level 0 (t - 1)&&Qg6 els i x.Level u x.From&&elsR t els (i+1) (u++x.From.map pq) l
omit hs hN in
theorem Q9y (t:Int) (els:List GElement):∀ (l:List GElement) (i:Nat) (u:List (Int×Int)),elsR t els i u l=(l.all Qfw&&Qpi t els i u l)
 | [],_,_=>rfl
 | x::l,i,u=>by
  rw [elsR,Q9y t els l,Qpi,List.all_cons]
  cases Qfw x<;>cases btw x.Level 0 (t - 1)<;>cases Qg6 els i x.Level u x.From<;>cases l.all Qfw<;>rfl
theorem Q9x (k:Unit→Option Bool):∀ (m i:Nat) (u:List GPort),(n.Elements.drop i).length<m→u.length≤25 * i →
  Qdi N n k m u i=bif elsR n.Table.length n.Elements i (u.map pq) (n.Elements.drop i) then k () else some false:=by
 intro m
 induction m with
 | zero=>intro i _ h; exact absurd h (Nat.not_lt_zero _)
 | succ m ih=>
  intro i u h hu
  rw [Qdi]
  cases hd:n.Elements.drop i with
  | nil=>
   have:=Qcp hd
   simp [show ¬ ((i:Int)<n.Elements.length) from by omega,elsR]
  | cons x l=>
   obtain ⟨hg,hd',hlt⟩:=Qb8 hd
   have e0:=hs.e
   have e1:=hs.t
   have hx:=hs.x x (List.mem_of_getElem? hg)
   simp only [show decide ((i:Int)<n.Elements.length)=true from by simpa using hlt,cond_true,Qbp,Qck hg,Option.bind_some,Zat (show x.Weights.length≤1000 by omega) hN,Qz2,elsR]
   rw [Qbd (x:=(n.Table.length:Int) - 1) (by omega) (by omega)]
   cases Qfw x with
   | false=>rfl
   | true=>
    cases hb:btw x.Level 0 ((n.Table.length:Int) - 1) with
    | false=>rfl
    | true=>
     have:=Q4f hs hN hlt hx.1 (fun y9=>Qdi N n k m y9 (w64 ((i:Int)+1))) N 0 u (by simp; omega) (by omega)
     rw [List.drop_zero] at this
     simp only [Bool.not_true,cond_false,Bool.true_and]
     refine this.trans ?_
     cases Qg6 n.Elements i x.Level (u.map pq) x.From with
     | false=>rfl
     | true=>
      rw [cond_true,Qbd (x:=(i:Int)+1) (by omega) (by omega),show (i:Int)+1=((i+1:Nat):Int) by omega,ih (i+1) _ (by rw [hd']; rw [hd] at h; simp at h; omega) (by simp; omega),hd',Bool.true_and,List.map_append]
theorem Zi5:Qiw N n=some (netB n):=by
 have e0:=hs.e
 have e1:=hs.t
 unfold Qiw netB
 simp only [Qbp,Q8i (show n.Table.length≤9223372036854775807 by omega) (show n.Table.length<N by omega),Option.bind_some]
 cases tabB n.Table with
 | false=>rfl
 | true=>
  simp only [Bool.not_true,cond_false,Bool.true_and]
  by_cases h1:(n.Elements.length:Int)<1
  ·rw [decide_eq_true h1,show btw n.Elements.length 1 16=false by unfold btw; rw [decide_eq_false (by omega)]; rfl]; rfl
  ·by_cases h2:(n.Elements.length:Int)>16
   ·rw [decide_eq_false h1,decide_eq_true h2,show btw n.Elements.length 1 16=false by unfold btw; rw [decide_eq_false (show ¬ (n.Elements.length:Int)≤16 by omega),Bool.and_false]]; rfl
   ·rw [decide_eq_false h1,decide_eq_false h2,Qeq.2 ⟨by omega,by omega⟩]
    have:=Q9x hs hN (fun _=>some true) N 0 [] (by simp; omega) (by simp)
    rw [List.drop_zero] at this
    simp only [cond_false,Bool.true_and]
    refine this.trans ?_
    rw [Q9y]
    cases n.Elements.all Qfw<;>cases h:Qpi n.Table.length n.Elements 0 [] n.Elements<;>simp [h]
end
theorem Zcs (N:Nat) (n:GNet) (k:Unit→Option Bool) (hl:(n.Elements.length:Int)≤9223372036854775807):∀ (m i:Nat),(n.Elements.drop i).length<m →
  Qe1 N n k m i=bif (n.Elements.drop i).all (fun x=>decide (x.From.length≤25)&&decide (x.Weights.length≤25)) then k () else some false:=by
 intro m
 induction m with
 | zero=>intro i h; exact absurd h (Nat.not_lt_zero _)
 | succ m ih=>
  intro i h
  rw [Qe1]
  cases hd:n.Elements.drop i with
  | nil=>
   have:=Qcp hd
   simp [show ¬ ((i:Int)<n.Elements.length) from by omega]
  | cons x l=>
   obtain ⟨hg,hd',hlt⟩:=Qb8 hd
   simp only [show decide ((i:Int)<n.Elements.length)=true from by simpa using hlt,cond_true,Qck hg,Option.bind_some,List.all_cons]
   by_cases h1:(x.From.length:Int)>25
   ·rw [decide_eq_true h1,decide_eq_false (show ¬ x.From.length≤25 by omega)]; rfl
   ·by_cases h2:(x.Weights.length:Int)>25
    ·rw [decide_eq_false h1,decide_eq_true h2,decide_eq_false (show ¬ x.Weights.length≤25 by omega)]; simp
    ·rw [decide_eq_false h1,decide_eq_false h2,decide_eq_true (show x.From.length≤25 by omega),decide_eq_true (show x.Weights.length≤25 by omega),cond_false,cond_false,Qbd (x:=(i:Int)+1) (by omega) (by omega),show (i:Int)+1=((i+1:Nat):Int) by omega,ih (i+1) (by rw [hd']; rw [hd] at h; simp at h; omega),hd']
     rfl
theorem Zmd {N:Nat} {n:GNet} {ws:List GStream} (hl:(n.Elements.length:Int)≤9223372036854775807) (hN:n.Elements.length<N):(Qjo N n ws=some false)∨(Qjo N n ws=some true∧Small n∧ws.length≤25):=by
 unfold Qjo
 simp only [Qbp]
 have:=Zcs N n (fun _=>bif (decide ((n.Elements.length:Int)≤18)) then bif (decide ((n.Table.length:Int)≤25)) then some (decide ((ws.length:Int)≤25)) else some false else some false) hl N 0 (by simpa using hN)
 rw [List.drop_zero,show ((0:Nat):Int)=0 from rfl] at this
 rw [this]
 cases ha:n.Elements.all (fun x=>decide (x.From.length≤25)&&decide (x.Weights.length≤25)) with
 | false=>exact .inl rfl
 | true=>
  rw [cond_true]
  by_cases h1:(n.Elements.length:Int)≤18
  ·by_cases h2:(n.Table.length:Int)≤25
   ·by_cases h3:(ws.length:Int)≤25
    ·refine .inr ⟨by rw [decide_eq_true h1,decide_eq_true h2,decide_eq_true h3]; rfl,⟨by omega,by omega,fun x hx=>?_⟩,by omega⟩
     have:=List.all_eq_true.1 ha x hx
     simpa using this
    ·exact .inl (by rw [decide_eq_true h1,decide_eq_true h2,decide_eq_false h3]; rfl)
   ·exact .inl (by rw [decide_eq_true h1,decide_eq_false h2]; rfl)
  ·exact .inl (by rw [decide_eq_false h1]; rfl)
theorem Q80 (N:Nat) (x:GElement) (k:List GElement×List GPort×List Int→Option GNet) (hl:x.From.length≤1000) (a:List GElement) (w:List Int):∀ (m j:Nat) (acc:List GPort),(x.From.drop j).length<m→acc.length=j →
  Qez N x k m j a acc w=k (a,acc++x.From.drop j,w):=by
 intro m
 induction m with
 | zero=>intro j _ h; exact absurd h (Nat.not_lt_zero _)
 | succ m ih=>
  intro j acc h ha
  rw [Qez]
  cases hd:x.From.drop j with
  | nil=>
   have:=Qcp hd
   simp [show ¬ ((j:Int)<x.From.length) from by omega]
  | cons p l=>
   obtain ⟨hg,hd',hlt⟩:=Qb8 hd
   simp only [show decide ((j:Int)<x.From.length)=true from by simpa using hlt,cond_true,Qck hg,Option.bind_some,chk]
   rw [show decide ((acc.length+[p].length) * 16≤140737488355328)=true by simp; omega,cond_true,Qbd (x:=(j:Int)+1) (by omega) (by omega),show (j:Int)+1=((j+1:Nat):Int) by omega,
    ih (j+1) _ (by rw [hd']; rw [hd] at h; simp at h; omega) (by simp [ha]),hd',List.append_assoc]
   rfl
theorem Zcj {N:Nat} {n:GNet} (hs:Small n) (hN:1001≤N) (k:List GElement→Option GNet):∀ (m i:Nat) (acc:List GElement),(n.Elements.drop i).length<m→acc.length=i →
  Qe0 N n k m i acc=k (acc++n.Elements.drop i):=by
 intro m
 induction m with
 | zero=>intro i _ h; exact absurd h (Nat.not_lt_zero _)
 | succ m ih=>
  intro i acc h ha
  rw [Qe0]
  cases hd:n.Elements.drop i with
  | nil=>
   have:=Qcp hd
   simp [show ¬ ((i:Int)<n.Elements.length) from by omega]
  | cons x l=>
   obtain ⟨hg,hd',hlt⟩:=Qb8 hd
   have e0:=hs.e
   have hx:=hs.x x (List.mem_of_getElem? hg)
   simp only [show decide ((i:Int)<n.Elements.length)=true from by simpa using hlt,cond_true,Qck hg,Option.bind_some,chk,Qbp]
   rw [show decide ((([]:List Int).length+x.Weights.length) * 8≤140737488355328)=true by simp; omega,cond_true]
   refine (Q80 N x _ (by omega) acc ([]++x.Weights) N 0 [] (by simp; omega) rfl).trans ?_
   dsimp only
   rw [List.drop_zero,List.nil_append,List.nil_append,show decide ((acc.length+[(⟨x.Kind,x.From,x.Level,x.Amount,x.Wide,x.Narrow,x.Weights⟩:GElement)].length) * 88≤140737488355328)=true by simp; omega,cond_true,Qbd (x:=(i:Int)+1) (by omega) (by omega),show (i:Int)+1=((i+1:Nat):Int) by omega,
    ih (i+1) _ (by rw [hd']; rw [hd] at h; simp at h; omega) (by simp [ha]),hd',List.append_assoc]
   rfl
theorem Zfx {N:Nat} {n:GNet} (hs:Small n) (hN:1001≤N):Qjn N n=some n:=by
 have e0:=hs.e
 have e1:=hs.t
 unfold Qjn
 rw [Zb0 (by omega) hN,Option.bind_some,Qbp]
 refine (Zcj hs hN _ N 0 [] (by simp; omega) rfl).trans ?_
 rw [List.drop_zero,List.nil_append]
end Go.Proofs.YtmbhnllcfmiajaaGreat
