/-
  PipeLives: the plain law. No conditions.
-/
import Derived.Test.YtmbhnllcfmiajaaGreatPLf6
import Derived.Test.YtmbhnllcfmiajaaGreatX10
namespace Go.Proofs.YtmbhnllcfmiajaaGreat
open Go.RowKit
theorem Zn3 {a b:Bool} {B:Option Bool} (h:B=some true):(bif a then bif b then some true else B else B)=some true:=by cases a<;>cases b<;>simp [h]
theorem Zam (n:GNet) (s:List Int) (ws:List GStream) (most:Int) (gn:Zaz n) (_:Q2c s) (_:Qtv ws) (_:(Lit.int IntKind.i64 most).wf=true):Qhx (n.Elements.length+s.length+2000) n s ws most=some true:=by
 generalize hNN:n.Elements.length+s.length+2000=N
 have hN:1001≤N:=by omega
 have hl:(n.Elements.length:Int)≤9223372036854775807:=by
  have:=gn.2.1
  rw [Zaj] at this
  omega
 unfold Qhx
 simp only [Q9i,Option.bind_some,Qxc]
 rcases Zmv (N:=N) (n:=n) (ws:=ws) hl (by omega) with e | ⟨e,hs,hw⟩
 ·rw [e,Option.bind_some,Bool.not_false,cond_true]
 rw [e,Option.bind_some,Bool.not_true,cond_false]
 by_cases h25:(s.length:Int)>25
 ·rw [decide_eq_true h25,cond_true]
 rw [decide_eq_false h25,cond_false]
 have w1:ws.length≤1000:=by omega
 have s1:s.length≤1000:=by omega
 refine Zn3 ?_
 simp only [Zmr hs hN,Zj9 N s1,Q6o w1 hN,Zka hs hN w1 s1,Zd1 hs hN w1 s1,Qzz,Option.bind_some]
 unfold lifA
 by_cases hr:Qka n s ws=0
 ·rw [if_pos hr,hr]
  cases hb:btw most 1 1000 with
  | false=>rfl
  | true=>
   rw [Zdx hs hN s1 hr hb]
   simp only [beq_self_eq_true,bne_self_eq_false,cond_true,cond_false,Bool.not_true,Option.bind_some]
 ·rw [if_neg hr,show (Qka n s ws==0)=false by simpa using hr]
  simp only [cond_false,show (Qka n s ws != 0)=true by simpa using hr,cond_true,beq_self_eq_true]
end Go.Proofs.YtmbhnllcfmiajaaGreat
