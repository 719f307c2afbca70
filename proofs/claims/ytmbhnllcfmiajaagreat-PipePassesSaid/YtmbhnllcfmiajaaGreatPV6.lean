/-
  Plain laws on nets: what is valid. No conditions.
-/
import Derived.Test.YtmbhnllcfmiajaaGreatPB6
namespace Go.Proofs.YtmbhnllcfmiajaaGreat
open Go.RowKit
theorem Qxw {α:Type} {F:Nat→Int→Option Int} {p:List α} {q:α→Option Bool} {b:α→Bool} {k:Unit→Option Int}
    (h:∀ n y,F (n+1) y=bif decide (y<(p.length:Int)) then (getI p y).bind fun x=>(q x).bind fun c=>bif c then some y else F n (w64 (y+1)) else k ())
    (hq:∀ x,q x=some (b x)) (hk:k ()=some (-1)) (hl:p.length≤1000000):∀ (n i:Nat),(p.drop i).length<n→(F n i).bind (fun x=>some (decide (x≥0)))=some ((p.drop i).any b):=by
  intro n
  induction n with
  | zero=>intro i h; exact absurd h (Nat.not_lt_zero _)
  | succ n ih=>
    intro i hn
    rw [h]
    cases hd:p.drop i with
    | nil=>
      have:=Qcp hd
      rw [show decide ((i:Int)<(p.length:Int))=false by simp; omega,cond_false,hk]
      rfl
    | cons a l=>
      obtain ⟨h1,h2,h3⟩:=Qb8 hd
      rw [show decide ((i:Int)<(p.length:Int))=true by simp; omega,cond_true,Qck h1,Option.bind_some,hq,Option.bind_some]
      cases hb:b a with
      | true=>simp [hb]
      | false=>
        rw [cond_false,show w64 ((i:Int)+1)=((i+1:Nat):Int) by rw [Qbd]<;>omega,ih (i+1) (by rw [h2]; rw [hd] at hn; simp at hn; omega),h2]
        simp [hb]
theorem Qhj {α:Type} {F:Nat→Int→Option Int} {p:List α} {q:α→Option Bool} {b:α→Bool} {k:Unit→Option Int} {N:Nat}
    (h:∀ n y,F (n+1) y=bif decide (y<(p.length:Int)) then (getI p y).bind fun x=>(q x).bind fun c=>bif c then some y else F n (w64 (y+1)) else k ())
    (hq:∀ x,q x=some (b x)) (hk:k ()=some (-1)) (hl:p.length≤1000000) (hN:p.length<N):(F N 0).bind (fun x=>some (decide (x≥0)))=some (p.any b):=by
  have:=Qxw h hq hk hl N 0 (by simpa using hN)
  simpa using this
theorem Qjl (N:Nat) (a lo hi:Int):Qcq N a lo hi=some (btw a lo hi):=by
  unfold Qcq btw
  by_cases h:lo≤a<;>simp [h]
theorem Qsq {α:Type} (l:List α) (b:α→Bool):(!l.any fun x=>!b x)=l.all b:=by
  induction l with
  | nil=>rfl
  | cons a l ih=>simp only [List.any_cons,List.all_cons,Bool.not_or,Bool.not_not,ih]
def wtsB (w:List Int):Bool:=btw w.length 1 20&&(w.all (fun x=>btw x 0 1000)&&w.any fun x=>decide (x>0))
def outl (x:GElement):Int:=if x.Kind=4 then 2 else if x.Kind=5 then x.Weights.length else 1
def Qfw (x:GElement):Bool:=
  btw x.Kind 1 6&&btw x.Wide 0 1000000&&btw x.Narrow 1 1000000000&&btw x.From.length (if x.Kind=1 then 0 else 1) (if x.Kind=1 then 0 else if x.Kind=2 then 6 else 1) &&
  btw x.Amount 0 (if x.Kind=3 then 1000000000 else if x.Kind=4 then 1000 else 0)&&(if x.Kind=5 then wtsB x.Weights else decide (x.Weights.length=0))
theorem Zkj {N:Nat} {w:List Int} (hl:w.length≤1000) (hN:1001≤N):Qgb N w=some (w.all fun x=>btw x 0 1000):=by
  have hc:Qcv N w=some (w.any fun x=>!btw x 0 1000):=by
    unfold Qcv Qd3 Qbp
    refine Qhj (F:=Qb6 N w fun _=>some (-1)) (k:=fun _=>some (-1)) (q:=Qga N) (fun n y=>rfl) (fun x=>?_) rfl (by omega) (by omega)
    simp only [Qga,Qfv,Qjl,Option.bind_some]
  unfold Qgb
  rw [hc,Option.bind_some,Qsq]
theorem Zki {N:Nat} {w:List Int} (hl:w.length≤1000) (hN:1001≤N):Qci N w=some (w.any fun x=>decide (x>0)):=by
  unfold Qci Qd2 Qbp
  exact Qhj (F:=Qb5 N w fun _=>some (-1)) (k:=fun _=>some (-1)) (q:=Qfu N) (fun n y=>rfl) (fun x=>rfl) rfl (by omega) (by omega)
theorem Zau {N:Nat} {x:GElement} (hw:x.Weights.length≤1000) (hN:1001≤N):Qfg N x=some (Qfw x):=by
  have key:∀ (a b:Int),(bif ((x.From.length:Int) != a) then some false else
     (Qcq N x.Amount 0 b).bind fun x16=>bif (!x16) then some false else (Qcq N x.Wide 0 1000000).bind fun x19=>bif (!x19) then some false else
       (Qcq N x.Narrow 1 1000000000).bind fun x22=>bif (!x22) then some false else
        bif (x.Kind != 5) then some ((x.Weights.length:Int)==0) else (Qcq N (x.Weights.length:Int) 1 20).bind fun x7=>bif x7 then (Qgb N x.Weights).bind fun x10=>
        bif x10 then (Qci N x.Weights).bind fun x13=>some x13 else some false else some false) =
      some (decide ((x.From.length:Int)=a)&&btw x.Amount 0 b&&btw x.Wide 0 1000000&&btw x.Narrow 1 1000000000&&(if x.Kind=5 then wtsB x.Weights else decide (x.Weights.length=0))):=fun a b=>by
    simp only [Qjl,Zkj hw hN,Zki hw hN,Option.bind_some]
    by_cases h1:(x.From.length:Int)=a
    · rw [show ((x.From.length:Int) != a)=false by simpa using h1,cond_false,decide_eq_true h1]
      cases btw x.Amount 0 b<;>cases btw x.Wide 0 1000000<;>cases btw x.Narrow 1 1000000000<;>simp only [Bool.not_true,Bool.not_false,cond_true,cond_false,Bool.and_true,Bool.true_and,Bool.false_and,Bool.and_false]
      by_cases h5:x.Kind=5
      · rw [show (x.Kind != 5)=false by simpa using h5,if_pos h5,wtsB]
        cases btw x.Weights.length 1 20<;>cases (x.Weights.all fun x=>btw x 0 1000)<;>cases (x.Weights.any fun x=>decide (x>0))<;>rfl
      · rw [show (x.Kind != 5)=true by simpa using h5,if_neg h5,cond_true]
        congr 1
        by_cases h0:x.Weights.length=0
        · rw [h0]; rfl
        · rw [decide_eq_false h0,beq_eq_false_iff_ne]; omega
    · rw [show ((x.From.length:Int) != a)=true by simpa using h1,cond_true,decide_eq_false h1]
      simp
  unfold Qfg Qfw
  simp only [Qbp]
  simp only [key]
  have hkd:∀ a b:Int,decide (((x.From.length:Int))=a)=btw x.From.length a a:=fun a _=>by
    unfold btw
    by_cases h:(x.From.length:Int)=a
    · rw [h]; simp
    · rw [decide_eq_false h]
      symm
      rw [Bool.and_eq_false_iff,decide_eq_false_iff_not,decide_eq_false_iff_not]; omega
  have fin:∀ (a b c d e:Bool),some (a&&b&&c&&d&&e)=some (true&&c&&d&&a&&b&&e):=by
    intro a b c d e; cases a<;>cases b<;>cases c<;>cases d<;>rfl
  by_cases h1:x.Kind=1
  · rw [h1]
    simp only [beq_self_eq_true,cond_true,hkd 0 0]
    exact fin _ _ _ _ _
  · have b1:(x.Kind==1)=false:=by simpa using h1
    by_cases h2:x.Kind=2
    · rw [h2]
      have e:∀ c:Int,decide (((x.From.length:Int))=(if (if (6:Int)<x.From.length then 6 else (x.From.length:Int))>1 then (if (6:Int)<x.From.length then 6 else (x.From.length:Int)) else 1))=btw x.From.length 1 6:=fun _=>by
        unfold btw
        by_cases h6:(6:Int)<x.From.length
        · rw [if_pos h6,if_pos (by decide),decide_eq_false (by omega)]
          symm; rw [Bool.and_eq_false_iff,decide_eq_false_iff_not,decide_eq_false_iff_not]; omega
        · rw [if_neg h6]
          by_cases h7:(x.From.length:Int)>1
          · rw [if_pos h7]; simp; omega
          · rw [if_neg h7]
            by_cases h8:(x.From.length:Int)=1
            · rw [h8]; rfl
            · rw [decide_eq_false h8]
              symm; rw [Bool.and_eq_false_iff,decide_eq_false_iff_not,decide_eq_false_iff_not]; omega
      simp only [show ((2:Int)==1)=false from rfl,beq_self_eq_true,cond_true,cond_false,Option.bind_some,e 0]
      exact fin _ _ _ _ _
    · have b2:(x.Kind==2)=false:=by simpa using h2
      by_cases h3:x.Kind=3
      · rw [h3]
        simp only [show ((3:Int)==1)=false from rfl,show ((3:Int)==2)=false from rfl,beq_self_eq_true,cond_true,cond_false,hkd 1 0]
        exact fin _ _ _ _ _
      · have b3:(x.Kind==3)=false:=by simpa using h3
        by_cases h4:x.Kind=4
        · rw [h4]
          simp only [show ((4:Int)==1)=false from rfl,show ((4:Int)==2)=false from rfl,show ((4:Int)==3)=false from rfl,beq_self_eq_true,cond_true,cond_false,hkd 1 0]
          exact fin _ _ _ _ _
        · have b4:(x.Kind==4)=false:=by simpa using h4
          by_cases h5:x.Kind=5
          · rw [h5]
            simp only [show ((5:Int)==1)=false from rfl,show ((5:Int)==2)=false from rfl,show ((5:Int)==3)=false from rfl,show ((5:Int)==4)=false from rfl,beq_self_eq_true,cond_true,cond_false,hkd 1 0]
            exact fin _ _ _ _ _
          · have b5:(x.Kind==5)=false:=by simpa using h5
            by_cases h6:x.Kind=6
            · rw [h6]
              simp only [show ((6:Int)==1)=false from rfl,show ((6:Int)==2)=false from rfl,show ((6:Int)==3)=false from rfl,show ((6:Int)==4)=false from rfl,show ((6:Int)==5)=false from rfl,beq_self_eq_true,cond_true,cond_false,hkd 1 0]
              exact fin _ _ _ _ _
            · have b6:(x.Kind==6)=false:=by simpa using h6
              simp only [b1,b2,b3,b4,b5,b6,cond_false]
              have:btw x.Kind 1 6=false:=by
                unfold btw
                rw [Bool.and_eq_false_iff,decide_eq_false_iff_not,decide_eq_false_iff_not]; omega
              rw [this]; simp
theorem Zbu {N:Nat} (w:List Int) (k:Int→Option Bool) (hl:w.length≤1000):∀ (n i:Nat) (s:Int),(w.drop i).length<n→0≤s→s≤1000 * i →
    Qco N w k n s i=bif (w.drop i).all (fun x=>btw x 0 1000) then k (s+(w.drop i).sum) else some false:=by
  intro n
  induction n with
  | zero=>intro i _ h; exact absurd h (Nat.not_lt_zero _)
  | succ n ih=>
    intro i s h h0 h1
    rw [Qco]
    cases hd:w.drop i with
    | nil=>
      have:=Qcp hd
      simp [show ¬ ((i:Int)<w.length) from by omega]
    | cons a l=>
      obtain ⟨hg,hd',hlt⟩:=Qb8 hd
      simp only [show decide ((i:Int)<w.length)=true from by simpa using hlt,cond_true,Qck hg,Option.bind_some,Qz2,List.all_cons]
      cases hb:btw a 0 1000 with
      | false=>rfl
      | true=>
        have hb':=Qeq.1 hb
        simp only [Bool.not_true,cond_false,Bool.true_and,List.sum_cons]
        rw [Qbd (x:=(i:Int)+1) (by omega) (by omega),Qbd (x:=s+a) (by omega) (by omega),show (i:Int)+1=((i+1:Nat):Int) by omega,ih (i+1) (s+a) (by rw [hd']; rw [hd] at h; simp at h; omega) (by omega) (by omega),hd',Int.add_assoc]
theorem Qzh {w:List Int} (h:∀ x ∈ w,0≤x):0≤w.sum∧(w.sum>0 ↔ ∃ x ∈ w,x>0):=by
  induction w with
  | nil=>simp
  | cons a l ih=>
    obtain ⟨h1,h2⟩:=ih fun x hx=>h x (List.mem_cons_of_mem _ hx)
    have ha:=h a List.mem_cons_self
    simp only [List.sum_cons,List.mem_cons,exists_eq_or_imp]
    refine ⟨by omega,⟨fun hs=>?_,fun hs=>?_⟩⟩
    · by_cases h3:a>0
      · exact .inl h3
      · exact .inr (h2.1 (by omega))
    · rcases hs with hs | hs
      · omega
      · have:=h2.2 hs; omega
theorem Q8h {N:Nat} {w:List Int} (hl:w.length≤1000) (hN:1001≤N):Qfd N w=some (wtsB w):=by
  unfold Qfd wtsB
  simp only [Qbp]
  have:=Zbu (N:=N) w (fun y1=>bif (decide ((w.length:Int)≤20)) then some (decide (y1>0)) else some false) hl N 0 0 (by simp; omega) (by omega) (by omega)
  rw [List.drop_zero,Int.zero_add] at this
  refine this.trans ?_
  cases ha:w.all fun x=>btw x 0 1000 with
  | false=>simp
  | true=>
    have ha':∀ x ∈ w,0≤x:=fun x hx=>(Qeq.1 (List.all_eq_true.1 ha x hx)).1
    have hs:=(Qzh ha').2
    have e:(w.any fun x=>decide (x>0))=decide (w.sum>0):=by
      by_cases h:w.sum>0
      · rw [decide_eq_true h,List.any_eq_true]
        obtain ⟨x,h1,h2⟩:=hs.1 h
        exact ⟨x,h1,by simpa using h2⟩
      · rw [decide_eq_false h]
        rw [List.any_eq_false]
        exact fun x hx h2=>h (hs.2 ⟨x,hx,by simpa using h2⟩)
    rw [e,cond_true,Bool.true_and]
    by_cases h1:w.length=0
    · have:w=[]:=List.length_eq_zero_iff.1 h1
      subst this
      rfl
    · by_cases h2:(w.length:Int)≤20
      · rw [show btw (w.length:Int) 1 20=true from Qeq.2 ⟨by omega,h2⟩,decide_eq_true h2]; rfl
      · rw [show btw (w.length:Int) 1 20=false by unfold btw; rw [decide_eq_false h2,Bool.and_false],decide_eq_false h2]; rfl
theorem Zat {N:Nat} {x:GElement} (hw:x.Weights.length≤1000) (hN:1001≤N):Qiv N x=some (Qfw x):=by
  unfold Qiv Qfw
  simp only [Qbp,Qz2,Q8h hw hN,Option.bind_some]
  have hk:btw x.Kind 1 6=(!decide (x.Kind<1)&&!decide (x.Kind>6)):=by
    unfold btw
    by_cases h1:x.Kind<1
    · rw [decide_eq_true h1,decide_eq_false (by omega)]; rfl
    · by_cases h2:x.Kind>6
      · rw [decide_eq_true h2,decide_eq_false (show ¬ x.Kind≤6 by omega)]; simp
      · rw [decide_eq_false h1,decide_eq_false h2,decide_eq_true (by omega),decide_eq_true (by omega)]; rfl
  have hw0:((x.Weights.length:Int)==0)=decide (x.Weights.length=0):=by
    by_cases h0:x.Weights.length=0
    · rw [h0]; rfl
    · rw [decide_eq_false h0,beq_eq_false_iff_ne]; omega
  have fin2:∀ (a b c:Bool),(bif !a then some false else bif !b then some false else some c)=some (a&&b&&c):=by
    intro a b c; cases a<;>cases b<;>cases c<;>rfl
  rw [hk,hw0]
  cases decide (x.Kind<1) with
  | true=>rfl
  | false=>
    cases decide (x.Kind>6) with
    | true=>rfl
    | false=>
      simp only [cond_false,Bool.not_false,Bool.true_and]
      cases btw x.Wide 0 1000000 with
      | false=>rfl
      | true=>
        cases btw x.Narrow 1 1000000000 with
        | false=>rfl
        | true=>
          simp only [Bool.not_true,cond_false,Bool.true_and]
          by_cases h1:x.Kind=1
          · rw [h1]
            simp only [beq_self_eq_true,cond_true,show ((1:Int)==2)=false from rfl,show ((1:Int)==3)=false from rfl,show ((1:Int)==4)=false from rfl,show ((1:Int)==5)=false from rfl,cond_false]
            exact fin2 _ _ _
          · have b1:(x.Kind==1)=false:=by simpa using h1
            simp only [b1,cond_false,if_neg h1]
            by_cases h2:x.Kind=2
            · rw [h2]
              simp only [beq_self_eq_true,cond_true,show ((2:Int)==3)=false from rfl,show ((2:Int)==4)=false from rfl,show ((2:Int)==5)=false from rfl,cond_false]
              exact fin2 _ _ _
            · have b2:(x.Kind==2)=false:=by simpa using h2
              simp only [b2,cond_false,if_neg h2]
              by_cases h3:x.Kind=3
              · rw [h3]
                simp only [beq_self_eq_true,cond_true,show ((3:Int)==4)=false from rfl,show ((3:Int)==5)=false from rfl,cond_false]
                exact fin2 _ _ _
              · have b3:(x.Kind==3)=false:=by simpa using h3
                simp only [b3,cond_false,if_neg h3]
                by_cases h4:x.Kind=4
                · rw [h4]
                  simp only [beq_self_eq_true,cond_true,show ((4:Int)==5)=false from rfl,cond_false]
                  exact fin2 _ _ _
                · have b4:(x.Kind==4)=false:=by simpa using h4
                  simp only [b4,cond_false,if_neg h4]
                  by_cases h5:x.Kind=5
                  · rw [h5]
                    simp only [beq_self_eq_true,cond_true]
                    exact fin2 _ _ _
                  · have b5:(x.Kind==5)=false:=by simpa using h5
                    simp only [b5,cond_false,if_neg h5]
                    exact fin2 _ _ _
theorem Ziw (N:Nat) (x:GElement):Qdv N x=some (outl x):=by
  unfold Qdv outl
  by_cases h4:x.Kind=4
  · rw [h4]; rfl
  · by_cases h5:x.Kind=5
    · rw [h5]; rfl
    · rw [show (x.Kind==4)=false by simpa using h4,show (x.Kind==5)=false by simpa using h5,if_neg h4,if_neg h5]; rfl
theorem Ziv (N:Nat) (x:GElement):Qg8 N x=some (outl x):=by
  unfold Qg8 outl
  by_cases h4:x.Kind=4
  · rw [h4]; rfl
  · by_cases h5:x.Kind=5
    · rw [h5]; rfl
    · rw [show (x.Kind==4)=false by simpa using h4,show (x.Kind==5)=false by simpa using h5,if_neg h4,if_neg h5]; rfl
end Go.Proofs.YtmbhnllcfmiajaaGreat
