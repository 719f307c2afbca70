/-
  Plain laws on the document's errors, and on equal ticks. No conditions but small sizes.
-/
import Derived.Test.YtmbhnllcfmiajaaGreatPRd6
import Derived.Test.YtmbhnllcfmiajaaGreatPKo6
import Derived.Test.YtmbhnllcfmiajaaGreatPNet
namespace Go.Proofs.YtmbhnllcfmiajaaGreat
open Go.RowKit
theorem Q0d {N:Nat} {n:GNet} (hs:Small n) (hN:1001≤N) {ws:List GStream} (hl:ws.length≤1000):Qg3 N n ws=some (fedI n ws):=by
 have e0:=hs.e
 unfold Qg3 fedI
 simp only [Qbf,Zfi 1 (show n.Elements.length≤1000 by omega) hN,Option.bind_some,Zbj,Zdg hl hN,Q1y hl hN]
 by_cases h1:ws.length=wcn n n.Elements.length
 ·rw [decide_eq_true h1,show ((ws.length:Int) != (wcn n n.Elements.length:Int))=false by rw [bne_eq_false_iff_eq]; omega]
  cases ha:ws.all strB with
  | false=>rfl
  | true=>
   have hall:∀ s ∈ ws,StrV s:=fun s h=>Qno.1 (List.all_eq_true.1 ha s h)
   rw [Qoo hall hl]
   simp only [cond_false,Bool.not_true,Bool.true_and,cond_true]
   by_cases h2:(totS ws).Mass>1000000
   ·rw [decide_eq_true h2,if_pos h2]; rfl
   ·rw [decide_eq_false h2,if_neg h2]
    by_cases h3:(totS ws).Gas>1000000000
    ·rw [decide_eq_true h3,if_pos h3]; rfl
    ·rw [decide_eq_false h3,if_neg h3]; rfl
 ·rw [decide_eq_false h1,show ((ws.length:Int) != (wcn n n.Elements.length:Int))=true by rw [bne_iff_ne]; omega]; rfl
theorem Zd2 {N:Nat} {n:GNet} (hs:Small n) (hN:1001≤N) {st:List Int} {ws:List GStream} (hl:ws.length≤1000) (hl2:st.length≤1000):Qju N n st ws=some (Qmm n st ws):=by
 unfold Qju Qmm
 rw [Zjw hs hN,Option.bind_some]
 cases netB n with
 | false=>rfl
 | true=>
  rw [Q6r (n:=n) hl2 hN,Option.bind_some,Q0d hs hN hl]
  cases stB n st<;>rfl
theorem Zat (N:Nat) (l:List Int) (k:Unit→Option Bool) (hl:l.length≤1000):∀ (m i:Nat),(l.drop i).length<m→Qes N l l k m i=k ():=by
 intro m
 induction m with
 | zero=>intro i h; exact absurd h (Nat.not_lt_zero _)
 | succ m ih=>
  intro i h
  rw [Qes]
  cases hd:l.drop i with
  | nil=>
   have:=Qcf hd
   simp [show ¬ ((i:Int)<l.length) from by omega]
  | cons x q=>
   obtain ⟨hg,hd',hlt⟩:=Qbu hd
   simp only [show decide ((i:Int)<l.length)=true from by simpa using hlt,cond_true,Qcd hg,Option.bind_some,bne_self_eq_false,cond_false]
   rw [Qa5 (x:=(i:Int)+1) (by omega) (by omega),show (i:Int)+1=((i+1:Nat):Int) by omega,ih (i+1) (by rw [hd']; rw [hd] at h; simp at h; omega)]
theorem Zj3 {N:Nat} {l:List Int} (hl:l.length≤1000) (hN:1001≤N):Qkx N l l=some true:=by
 unfold Qkx
 simp only [Qbf,bne_self_eq_false,cond_false]
 exact Zat N l _ hl N 0 (by simp; omega)
theorem Q6o (N:Nat) (l:List GStream) (k:Unit→Option Bool) (hl:l.length≤1000):∀ (m i:Nat),(l.drop i).length<m→Qep N k l l m i=k ():=by
 intro m
 induction m with
 | zero=>intro i h; exact absurd h (Nat.not_lt_zero _)
 | succ m ih=>
  intro i h
  rw [Qep]
  cases hd:l.drop i with
  | nil=>
   have:=Qcf hd
   simp [show ¬ ((i:Int)<l.length) from by omega]
  | cons x q=>
   obtain ⟨hg,hd',hlt⟩:=Qbu hd
   simp only [show decide ((i:Int)<l.length)=true from by simpa using hlt,cond_true,Qcd hg,Option.bind_some,Qmf,beq_self_eq_true,Bool.not_true,cond_false]
   rw [Qa5 (x:=(i:Int)+1) (by omega) (by omega),show (i:Int)+1=((i+1:Nat):Int) by omega,ih (i+1) (by rw [hd']; rw [hd] at h; simp at h; omega)]
theorem Q6p (N:Nat) (t:GTick) (k:Unit→Option Bool) (hN:1001≤N) (hl:t.Out.length≤1000) (hr:∀ r ∈ t.Out,r.length≤1000):∀ (m i:Nat),(t.Out.drop i).length<m→Qeq N t t k m i=k ():=by
 intro m
 induction m with
 | zero=>intro i h; exact absurd h (Nat.not_lt_zero _)
 | succ m ih=>
  intro i h
  rw [Qeq]
  cases hd:t.Out.drop i with
  | nil=>
   have:=Qcf hd
   simp [show ¬ ((i:Int)<t.Out.length) from by omega]
  | cons x q=>
   obtain ⟨hg,hd',hlt⟩:=Qbu hd
   have hx:=hr x (List.mem_of_getElem? hg)
   simp only [show decide ((i:Int)<t.Out.length)=true from by simpa using hlt,cond_true,Qbf,Qcd hg,Option.bind_some,bne_self_eq_false,cond_false]
   refine (Q6o N x _ hx N 0 (by simp; omega)).trans ?_
   rw [Qa5 (x:=(i:Int)+1) (by omega) (by omega),show (i:Int)+1=((i+1:Nat):Int) by omega,ih (i+1) (by rw [hd']; rw [hd] at h; simp at h; omega)]
theorem Q6q (N:Nat) (t:GTick) (k:Unit→Option Bool) (hl:t.Lost.length≤1000):∀ (m i:Nat),(t.Lost.drop i).length<m→Qer N t t k m i=k ():=by
 intro m
 induction m with
 | zero=>intro i h; exact absurd h (Nat.not_lt_zero _)
 | succ m ih=>
  intro i h
  rw [Qer]
  cases hd:t.Lost.drop i with
  | nil=>
   have:=Qcf hd
   simp [show ¬ ((i:Int)<t.Lost.length) from by omega]
  | cons x q=>
   obtain ⟨hg,hd',hlt⟩:=Qbu hd
   simp only [show decide ((i:Int)<t.Lost.length)=true from by simpa using hlt,cond_true,Qcd hg,Option.bind_some,bne_self_eq_false,cond_false]
   rw [Qa5 (x:=(i:Int)+1) (by omega) (by omega),show (i:Int)+1=((i+1:Nat):Int) by omega,ih (i+1) (by rw [hd']; rw [hd] at h; simp at h; omega)]
theorem Zjg {N:Nat} {t:GTick} (hN:1001≤N) (h1:t.Out.length≤1000) (h2:t.Lost.length≤1000) (h3:t.State.length≤1000) (hr:∀ r ∈ t.Out,r.length≤1000):Qkv N t t=some true:=by
 unfold Qkv
 simp only [Qbf,bne_self_eq_false,cond_false,Zj3 h3 hN,Option.bind_some,Bool.not_true]
 refine (Q6p N t _ hN h1 hr N 0 (by simp; omega)).trans ?_
 exact Q6q N t _ h2 N 0 (by simp; omega)
theorem Q6h {n:GNet} (hs:Small n) {st:List Int} (hst:StV n st) {ws:List GStream} {r:Q27} (h:TickV n st ws r):r.1.length≤18∧r.2.1.length≤18∧r.2.2.1.length=n.Elements.length∧∀ q ∈ r.1,q.length≤25:=by
 have e0:=hs.e
 have hlo:=h.inv.lo
 have hll:=h.inv.ll
 have hsl:=hst.len
 refine ⟨by omega,by omega,by rw [h.ss,List.length_zipWith]; omega,fun q hq=>?_⟩
 obtain ⟨k,hk⟩:=List.mem_iff_getElem?.1 hq
 have hkl:=(List.getElem?_eq_some_iff.1 hk).1
 have hy:n.Elements[k]? = some (n.Elements[k]'(by omega)):=List.getElem?_eq_getElem _
 have h1:=h.inv.rows k _ q hy hk
 have h2:=Q18 (hs.x _ (List.getElem_mem (show k<n.Elements.length by omega))).2
 omega
end Go.Proofs.YtmbhnllcfmiajaaGreat
