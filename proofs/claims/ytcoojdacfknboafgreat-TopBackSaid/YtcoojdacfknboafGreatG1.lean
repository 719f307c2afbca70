/-
  The texts EngB, EngD, EngF, EngH, EngI, EngK, EngM, EngO, EngQ of the proof, one behind the other. No conditions.
-/
import Derived.Test.YtcoojdacfknboafGreatProg
import Derived.WalkKit
import Derived.Orders
import Derived.OrdersIn
import Derived.RangeFuncLeaves
import Derived.RangeFuncFrom
import Derived.Scope
import Derived.LoopN
import Derived.LoopNIn
import Derived.Laws.StructEq
import Derived.Laws.AppendOwn
import Derived.Laws.MakeOwn
import Derived.Conc.MuLone
namespace Go.Proofs.YtcoojdacfknboafGreat
open _root_.Go.Proofs.Tryz
open Go.RowKit
set_option linter.defProp false
set_option linter.unusedVariables false
set_option linter.unusedSimpArgs false
section
def Xaa:=@Option.bind_some
def Xab:=@List.getElem?_eq_getElem
def Xac:=@List.mem_of_getElem?
def Xad:=@List.getElem?_eq_some_iff
def Xae:=@decide_eq_true
def Xaf:=@Array.getD_eq_getD_getElem?
def Xah:=@decide_eq_false
def Xai:=@cond_false
def Xaj:=@List.getD_eq_getElem?_getD
def Xak:=@cond_true
def Xal:=@List.mem_cons_of_mem
def Xam:=@List.getElem?_append_right
def Xan:=@List.append_assoc
def Xao:=@Go.Result.andThen_ok
def Xap:=@List.drop_zero
def Xaq:=@Bool.and_eq_true
def Xar:=@Nat.zero_add
def Xas:=@List.getElem?_append_left
def Xat:=@if_neg
def Xau:=@List.eq_nil_of_length_eq_zero
def Xav:=@Go.Sem.run_bind
def Xaw:=@List.getElem?_map
def Xax:=@List.map_cons
def Xay:=@Nat.le_refl
def Xaz:=@if_pos
def Xa1:=@Array.getElem?_eq_getElem
def Xa3:=@Array.getElem?_eq_some_iff
def Xa5:=@List.length_cons
def Xa6:=@List.all_eq_true
def Xa7:=@List.mem_cons
def Xa8:=@Go.run_underlying
def Xa9:=@List.nil_append
def Xba:=@List.mem_map
def Xbb:=@List.getElem?_eq_none
def Xbc:=@Nat.lt_of_lt_of_le
def Xbd:=@Option.getD_some
def Xbe:=@List.drop_eq_getElem_cons
def Xbf:=@Int.toNat_natCast
def Xbg:=@Nat.zero_le
def Xbi:=@List.getElem?_take
def Xbj:=@Nat.eq_or_lt_of_le
def Xbk:=@Go.heap_alloc_old
def Xbl:=@Nat.mul_le_mul_right
def Xbm:=@beq_iff_eq
def Xbn:=@List.append_nil
def Xbo:=@Int.mul_le_mul_of_nonneg_left
def Xbp:=@Int.le_refl
def Xbq:=@List.mem_singleton
def Xbs:=@List.getElem?_zip_eq_some
def Xbw:=@decide_eq_true_eq
def Xbx:=@decide_eq_false_iff_not
def Xby:=@List.mem_append
def Xbz:=@List.map_nil
def Xb0:=@List.sum_cons
def Xb1:=@List.length_append
def Xb2:=@List.getElem_mem
def Xb3:=@List.length_map
def Xb4:=@Bool.not_true
def Xb5:=@Array.getElem?_toList
def Xb8:=@beq_self_eq_true
def Xb9:=@List.mem_cons_self
def Xca:=@Option.map_some
def Xcb:=@List.take_of_length_le
def Xcc:=@Bool.true_and
def Xcd:=@Go.World.cell?_of_block
def Xcf:=@List.take_append_drop
def Xcg:=@List.length_nil
def Xch:=@List.getElem?_drop
def Xci:=@List.getElem?_set_ne
def Xcj:=@List.getElem?_of_mem
def Xcl:=@Nat.not_lt_zero
def Xcm:=@Nat.lt_or_ge
def Xcn:=@Nat.le_trans
def Xco:=@List.pairwise_append
def Xcp:=@List.drop_of_length_le
def Xcr:=@Go.Sem.run_pure
def Xcs:=@Array.getElem?_replicate
def Xct:=@beq_eq_false_iff_ne
def Xcu:=@Nat.add_mul
def Xcv:=@List.take_length
def Xcz:=@Go.DataW.trod_struct
def Xc0:=@List.mem_append_left
def Xc2:=@List.pairwise_cons
def Xc3:=@Option.map_eq_some_iff
def Xc4:=@List.length_pos_iff
def Xc5:=@Nat.lt_trichotomy
def Xc8:=@Bool.false_eq_true
def Xc9:=@Nat.le_of_not_lt
def Xda:=@List.cons_append
def Xdb:=@Array.getElem?_append_left
def Xdf:=@Nat.eq_of_beq_eq_true
def Xdg:=@List.set_append_right
def Xdj:=@Array.all_eq_true'
def Xdk:=@List.length_take
def Xdl:=@Nat.lt_irrefl
def Xdm:=@Nat.add_sub_cancel_left
def Xdn:=@List.getElem?_replicate
def Xdo:=@List.all_cons
def Xdp:=@Array.getElem?_setIfInBounds
def Xdq:=@Nat.add_zero
def Xdr:=@of_decide_eq_true
def Xdv:=@Option.some.injEq
def Xdw:=@Bool.not_eq_true'
def Xdx:=@List.map_congr_left
def Xdy:=@List.map_append
def Xdz:=@List.getElem_of_mem
def Xd0:=@List.getElem?_set_self
def Xd1:=@List.range'_succ
def Xd3:=@Nat.sub_self
def Xd4:=@Nat.le_of_ble_eq_true
def Xd5:=@List.mem_append_right
def Xd6:=@List.getElem?_toArray
def Xd7:=@List.mem_range
def Xd8:=@List.mem_or_eq_of_mem_set
def Xd9:=@Bool.not_false
def Xea:=@Go.setRow_other
def Xeb:=@bne_iff_ne
def Xec:=@List.foldl_cons
def Xed:=@List.eq_of_mem_replicate
def Xee:=@congrFun
def Xef:=@Prod.mk.injEq
def Xeg:=@Nat.add_assoc
def Xeh:=@List.getElem?_cons_succ
def Xei:=@Option.getD_none
def Xej:=@Go.wpIn_mono
def Xek:=@congrArg
def Xel:=@Go.heap_alloc_new
def Xem:=@List.nodup_cons
def Xen:=@List.mem_filter
def Xeo:=@List.map_map
def Xep:=@Int.zero_add
def Xeq:=@Int.add_zero
def Xer:=@Array.getElem?_append_right
def Xet:=@List.nodup_append
def Xeu:=@List.length_range
def Xev:=@List.getElem?_set
def Xew:=@Bool.and_self
def Xex:=@Int.tdiv_eq_ediv_of_nonneg
def Xey:=@List.mem_take_iff_getElem
def Xez:=@List.drop_drop
def Xe0:=@Classical.byContradiction
def Xe1:=@List.any_eq_true
def Xe2:=@Nat.lt_succ_iff_lt_or_eq
def Xe3:=@Go.cell_of_row
def Xe4:=@if_true
def Xe6:=@Nat.le_mul_of_pos_right
def Xe7:=@List.zip_cons_cons
def Xe8:=@List.pairwise_singleton
def Xe9:=@List.filter_append
def Xfa:=@Go.Addr.add_lit
def Xfb:=@Go.Value.slice.inj
def Xfc:=@List.length_pos_of_mem
def Xfe:=@List.take_add_one
def Xff:=@if_false
def Xfg:=@List.nodup_nil
def Xfh:=@Int.mul_nonneg
def Xfi:=@List.eq_nil_or_concat
def Xfj:=@List.concat_eq_append
def Xfk:=@Bool.and_eq_false_iff
def Xfl:=@List.map_fst_zip
def Xfm:=@List.length_drop
def Xfn:=@List.filter_cons
def Xfo:=@Go.wpOpsIn_cons
def Xfp:=@List.range_eq_range'
def Xfq:=@List.mem_of_mem_take
def Xfr:=@Int.add_assoc
def Xfs:=@Nat.blt_eq
def Xfv:=@Option.some.inj
def Xfw:=@List.replicate_succ
def Xfx:=@List.getElem?_range
def Xfy:=@List.cons.injEq
def Xfz:=@Int.sub_mul
def Xf0:=@Int.ediv_nonneg
def Xf1:=@Bool.or_eq_true
def Xf2:=@Go.Oper.semAt_eq
def Xf3:=@Go.callsIn_of_wp_marks
def Xga:=@Nat.sub_zero
def Xgb:=@List.set_cons_zero
def Xgc:=@Int.mul_comm
def Xgd:=@List.pairwise_iff_getElem
def Xgl:=@List.flatMap_cons
def Xgm:=@List.length_eq_zero_iff
def Xgn:=@Bool.false_or
def Xgo:=@List.map_toArray
def Xgp:=@List.getElem_inj
def Xgq:=@Go.setRow_heap
def Xgr:=@Go.CallsDIn.mono
def Xgs:=@Nat.zero_mul
def Xgt:=@List.sum_append
def Xgu:=@List.length_set
def Xgv:=@List.length_replicate
def Xgw:=@List.countP_le_length
def Xgx:=@List.contains_iff_mem
def Xgy:=@Go.IntKind.wrap_i64
def Xgz:=@Int.le_trans
def Xg0:=@Int.ediv_le_of_le_mul
def Xg1:=@Std.Legacy.Range.forIn_eq_forIn_range'
def Xg2:=@Go.callsIn_wide
def Xg3:=@List.take_succ_cons
def Xg4:=@List.mem_map_of_mem
def Xg5:=@List.countP_eq_zero
def Xg6:=@Int.mul_sub
def Xg7:=@Int.mul_add
def Xg8:=@of_decide_eq_false
def Xhg:=@List.cons_beq_cons
def Xhh:=@Bool.and_true
def Xhi:=@Array.append_assoc
def Xhj:=@bne_self_eq_false
def Xhq:=@Nat.le_of_lt_succ
def Xhr:=@List.flatten_cons
def Xhs:=@Int.not_lt
def Xht:=@Function.comp_def
def Xhu:=@Go.grownCap_le_maxLen
def Xhv:=@Nat.mul_comm
def Xhw:=@List.sum_nil
def Xhx:=@Int.sub_zero
def Xhy:=@List.map_snd_zip
def Xhz:=@List.isEmpty_iff
def Xh0:=@Option.map_none
def Xh1:=@Bool.not_or
def Xh2:=@Bool.eq_iff_iff
def Xh3:=@List.take_zero
def Xh4:=@List.getElem?_eq_none_iff
def Xh5:=@List.extract_eq_take_drop
def Xh6:=@Int.le_of_mul_le_mul_left
def Xh7:=@Decidable.byContradiction
def Xh8:=@Go.wpIn_region_any
def Xh9:=@Go.wpIn_region
def Xia:=@Go.grownCap_ge
def Xib:=@Nat.add_right_cancel_iff
def Xic:=@Int.not_le
def Xid:=@List.getElem?_cons_zero
inductive AV where
 |any
 |lit (v:Value)
 |agg (l:List AV)
 |tup (l:List AV)
 |fn (f:Fn) (first cap:List AV)
 |dat (m:Nat) (xs:List (List AV))
 |dptr (cs:List AV) (i:Nat)
 |ref (n m j i:Nat)
 |own (n m j len:Nat)
 |acc (n:Nat) (ty:TypeId) (m:Nat) (xs:List (List AV))
 |gro (n:Nat) (ty:TypeId) (m len:Nat)
 |row (n k m j len:Nat)
 |rowp (n k m j i:Nat)
 |mp (n:Nat)
inductive FSlot where
 |unused
 |dead
 |own (b:Nat)
 |tok (t:Option (Nat×Nat))
 |far (Y:Nat->Nat->Prop)
 |mat (bs:List (Option Nat))
def FSlot.lies (s:FSlot) (b:Nat):Prop:=s=.own b\/(∃L,s=.tok (some (b,L)))\/(∃Y,s=.far Y/\∃off,Y b off)\/∃bs,s=.mat bs/\∃k:Nat,bs[k]? = some (some b)
def Qf1 {b:Nat}(h:FSlot.unused.lies b):False:=by rcases h with e |⟨L,e⟩ |⟨Y,e,_⟩ |⟨bs,e,_⟩<;>cases e
def Qba {b:Nat}(h:FSlot.dead.lies b):False:=by rcases h with e |⟨L,e⟩ |⟨Y,e,_⟩ |⟨bs,e,_⟩<;>cases e
def Qe7 {b:Nat}(h:(FSlot.tok none).lies b):False:=by rcases h with e |⟨L,e⟩ |⟨Y,e,_⟩ |⟨bs,e,_⟩<;>cases e
def Qir {b b':Nat}(h:(FSlot.own b').lies b):b'=b:=by rcases h with e |⟨L,e⟩ |⟨Y,e,_⟩ |⟨bs,e,_⟩<;>cases e;rfl
def Qqx {t:Option (Nat×Nat)}{b:Nat}(h:(FSlot.tok t).lies b):∃L,t=some (b,L):=by rcases h with e |⟨L,e⟩ |⟨Y,e,_⟩ |⟨bs,e,_⟩<;>cases e;exact⟨L,rfl⟩
def Qqy {Y:Nat->Nat->Prop}{b:Nat}(h:(FSlot.far Y).lies b):∃off,Y b off:=by rcases h with e |⟨L,e⟩ |⟨Y,e,h⟩ |⟨bs,e,_⟩<;>cases e;exact h
def Q24 {bs:List (Option Nat)}{b:Nat}(h:(FSlot.mat bs).lies b):∃k:Nat,bs[k]? = some (some b):=by rcases h with e |⟨L,e⟩ |⟨Y,e,h⟩ |⟨bs,e,h⟩<;>cases e;exact h
def FSlot.lies.own {s:FSlot}{b:Nat}(h:s=.own b):s.lies b:=.inl h
def FSlot.lies.tok {s:FSlot}{b L:Nat}(h:s=.tok (some (b,L))):s.lies b:=.inr (.inl ⟨L,h⟩)
def FSlot.lies.far {s:FSlot}{Y:Nat->Nat->Prop}{b off:Nat}(h:s=.far Y) (hy:Y b off):s.lies b:=.inr (.inr (.inl ⟨Y,h,off,hy⟩))
def FSlot.lies.mat {s:FSlot}{bs:List (Option Nat)}{b k:Nat}(h:s=.mat bs) (hk:bs[k]? = some (some b)):s.lies b:=.inr (.inr (.inr ⟨bs,h,k,hk⟩))
def Qnz (φ:Nat->FSlot) (b:Nat):Prop:=∃n,(φ n).lies b
def Blk (φ:Nat->FSlot) (n b:Nat):Prop:=φ n=.own b\/∃(bs:List (Option Nat)) (k:Nat),φ n=.mat bs/\bs[k]? = some (some b)
def Blk.lies {φ:Nat->FSlot}{n b:Nat}(h:Blk φ n b):(φ n).lies b:=by
 rcases h with h |⟨bs,k,h,hk⟩
 ·exact .own h
 exact .mat h hk
def Blk.notok {φ:Nat->FSlot}{n b:Nat}{t:Option (Nat×Nat)}(h:Blk φ n b) (k:φ n=.tok t):False:=by rcases h with h |⟨_,_,h,_⟩<;>rw[k] at h<;>cases h
def Blk.nofar {φ:Nat->FSlot}{n b:Nat}{Y:Nat->Nat->Prop}(h:Blk φ n b) (k:φ n=.far Y):False:=by rcases h with h |⟨_,_,h,_⟩<;>rw[k] at h<;>cases h
structure DataAt (X:Nat->Nat->Prop) (φ:Nat->FSlot) (w:World) (b off:Nat):Prop where
 lt:b<w.heap.size
 hid:¬X b off
 own:∀n,φ n≠.own b
 tok:∀n L,φ n=.tok (some (b,L))->off<L
 far:∀n Y,φ n=.far Y->¬Y b off
 mat:∀(n:Nat) (bs:List (Option Nat)) (k:Nat),φ n=.mat bs->bs[k]? ≠ some (some b)
def DataAt.blk {X:Nat->Nat->Prop}{φ:Nat->FSlot}{w:World}{b off n:Nat}(h:DataAt X φ w b off) (k:Blk φ n b):False:=by
 rcases k with k |⟨bs,q,k,hq⟩
 ·exact h.own n k
 exact h.mat n bs q k hq
def Tip (w:World) (t:Option (Nat×Nat)) (ty:TypeId) (m:Nat) (A:Option Addr) (len cap:Nat):Prop:=
 match t with
 |none=>len=0/\cap=0
 |some (b,L)=>A=some ⟨b,0,none⟩/\L=len*m/\∃cur,w.heap[b]? = some (.cells cur ty (0,0))/\cur.size=cap*m/\cap<=maxLen
section
variable (X : Nat -> Nat -> Prop) (φ : Nat -> FSlot) (w : World)
structure DatOK (m:Nat) (xs:List (List AV)) (A:Option Addr) (len cap:Nat) (g:Nat->Nat->Value):Prop where
 hlen:len=xs.length
 hcap:len<=cap
 hmost:cap<=maxLen
 hsize:∀x∈xs,x.length=m
 hcells:xs≠[]->∃b o,A=some ⟨b,o,none⟩/\∀j x,xs[j]? = some x->∀i,i<m->DataAt X φ w b (o+j*m+i)/\w.cell? ⟨b,o+j*m+i,none⟩=some (g j i)
inductive RelV:AV->Value->Prop where
 |any (v:Value):RelV .any v
 |lit (v:Value):RelV (.lit v) v
 |agg (l:List AV) (vs:Array Value) (hs:vs.size=l.length) (h:∀i a,l[i]? = some a->RelV a (vs.getD i undef)):RelV (.agg l) (.agg vs)
 |tup (l:List AV) (vs:Array Value) (hs:vs.size=l.length) (h:∀i a,l[i]? = some a->RelV a (vs.getD i undef)):RelV (.tup l) (.tuple vs)
 |fn (f:Fn) (first cap:List AV) (us vs:Array Value) (hu:us.size=first.length) (hv:vs.size=cap.length)
   (h1:∀i a,first[i]? = some a->RelV a (us.getD i undef)) (h2:∀i a,cap[i]? = some a->RelV a (vs.getD i undef)):RelV (.fn f first cap) (.func f us vs)
 |dat (m:Nat) (xs:List (List AV)) (A:Option Addr) (len cap:Nat) (g:Nat->Nat->Value) (ok:DatOK X φ w m xs A len cap g)
   (h:∀j x,xs[j]? = some x->∀i a,x[i]? = some a->RelV a (g j i)):RelV (.dat m xs) (.slice A len cap)
 |dptr (cs:List AV) (i b o:Nat) (g:Nat->Value) (hc:∀k,k<cs.length->DataAt X φ w b (o+k)/\w.cell? ⟨b,o+k,none⟩=some (g k))
   (h:∀k a,cs[k]? = some a->RelV a (g k)):RelV (.dptr cs i) (.pointer (some ⟨b,o+i,none⟩))
 |ref (n m j i:Nat) (A:Option Addr) (hn:φ n≠.unused) (h:∀b,φ n=.own b->A=some ⟨b,j*m+i,none⟩):RelV (.ref n m j i) (.pointer A)
 |own (n m j len:Nat) (A:Option Addr) (cap:Nat) (hc:len<=cap) (hm:cap<=maxLen) (hn:φ n≠.unused) (h:∀b,φ n=.own b->A=some ⟨b,j*m,none⟩):RelV (.own n m j len) (.slice A len cap)
 |acc (n:Nat) (ty:TypeId) (m:Nat) (xs:List (List AV)) (A:Option Addr) (len cap:Nat) (g:Nat->Nat->Value) (ok:DatOK X φ w m xs A len cap g)
   (h:∀j x,xs[j]? = some x->∀i a,x[i]? = some a->RelV a (g j i)) (hn:φ n≠.unused) (ht:∀t,φ n=.tok t->Tip w t ty m A len cap):RelV (.acc n ty m xs) (.slice A len cap)
 |gro (n:Nat) (ty:TypeId) (m len:Nat) (A:Option Addr) (cap:Nat) (hc:len<=cap) (hm:cap<=maxLen) (hn:φ n≠.unused) (hv:φ n=.tok none->len=0/\cap=0)
   (h:∀b,φ n=.own b->A=some ⟨b,0,none⟩/\∃cur,w.heap[b]? = some (.cells cur ty (0,0))/\cur.size=cap*m):RelV (.gro n ty m len) (.slice A len cap)
 |row (n k m j len:Nat) (A:Option Addr) (cap:Nat) (hc:len<=cap) (hm:cap<=maxLen) (hn:φ n≠.unused) (h:len≠0->∀bs,φ n=.mat bs->k<bs.length/\∀b,bs[k]? = some (some b)->A=some ⟨b,j*m,none⟩):RelV (.row n k m j len) (.slice A len cap)
 |rowp (n k m j i:Nat) (A:Option Addr) (hn:φ n≠.unused) (h:∀bs,φ n=.mat bs->k<bs.length/\∀b,bs[k]? = some (some b)->A=some ⟨b,j*m+i,none⟩):RelV (.rowp n k m j i) (.pointer A)
 |mp (n:Nat) (A:Option Nat) (hn:φ n≠.unused) (h:∀b,φ n=.own b->A=some b):RelV (.mp n) (.map A)
end
def MatLe (bs bs':List (Option Nat)):Prop:=bs.length<=bs'.length/\∀k b,k<bs.length->bs'[k]? = some (some b)->bs[k]? = some (some b)
def MatLe.refl (bs:List (Option Nat)):MatLe bs bs:=⟨Xay _,fun _ _ _ h=>h⟩
def MatLe.trans {a b c:List (Option Nat)}(h:MatLe a b) (k:MatLe b c):MatLe a c:=⟨Xcn h.1 k.1,fun i x hi hx=>h.2 i x hi (k.2 i x (Xbc hi h.1) hx)⟩
def Shape (w w':World) (b:Nat):Prop:=∀cur ty s,w.heap[b]? = some (.cells cur ty s)->∃cur',w'.heap[b]? = some (.cells cur' ty s)/\cur'.size=cur.size
def Shape.same {w w':World}{b:Nat}(h:w'.heap[b]? = w.heap[b]?):Shape w w' b:=fun cur _ _ hc=>⟨cur,h.trans hc,rfl⟩
def Shape.trans {w w' w'':World}{b:Nat}(h:Shape w w' b) (k:Shape w' w'' b):Shape w w'' b:=fun cur ty s hc=>by
 obtain⟨c1,h1,h2⟩:=h cur ty s hc
 obtain⟨c2,h3,h4⟩:=k c1 ty s h1
 exact⟨c2,h3,h4.trans h2⟩
structure Evo (X:Nat->Nat->Prop) (φ:Nat->FSlot) (w:World) (φ':Nat->FSlot) (w':World):Prop where
 os:w'.os=w.os
 tape:w'.tape=w.tape
 output:w'.output=w.output
 size:w.heap.size<=w'.heap.size
 blk:∀b,b<w.heap.size->¬Qnz φ b->w'.heap[b]? = w.heap[b]?
 new:∀b,Qnz φ' b->Qnz φ b\/w.heap.size<=b
 dat:∀b off,DataAt X φ w b off->DataAt X φ' w' b off/\w'.cell? ⟨b,off,none⟩=w.cell? ⟨b,off,none⟩
 dead:∀n,φ n=.dead->φ' n=.dead
 own:∀n b,φ n=.own b->φ' n=.own b\/φ' n=.dead
 tok:∀n t,φ n=.tok t->φ' n=.dead\/(φ' n=.tok t/\∀b L,t=some (b,L)->w'.heap[b]? = w.heap[b]?)
 far:∀n Y,φ n=.far Y->φ' n=.dead\/∃Y',φ' n=.far Y'
 mat:∀n bs,φ n=.mat bs->φ' n=.dead\/∃bs',φ' n=.mat bs'/\MatLe bs bs'
 shape:∀n b,φ n=.own b->φ' n=.own b->Shape w w' b
structure Evo0 (X:Nat->Nat->Prop) (φ:Nat->FSlot) (w:World) (φ':Nat->FSlot) (w':World):Prop where
 os:w'.os=w.os
 tape:w'.tape=w.tape
 output:w'.output=w.output
 size:w.heap.size<=w'.heap.size
 dat:∀b off,DataAt X φ w b off->DataAt X φ' w' b off/\w'.cell? ⟨b,off,none⟩=w.cell? ⟨b,off,none⟩
 dead:∀n,φ n=.dead->φ' n=.dead
 own:∀n b,φ n=.own b->φ' n=.own b\/φ' n=.dead
 tok:∀n t,φ n=.tok t->φ' n=.dead\/(φ' n=.tok t/\∀b L,t=some (b,L)->w'.heap[b]? = w.heap[b]?)
 far:∀n Y,φ n=.far Y->φ' n=.dead\/∃Y',φ' n=.far Y'
 mat:∀n bs,φ n=.mat bs->φ' n=.dead\/∃bs',φ' n=.mat bs'/\MatLe bs bs'
 shape:∀n b,φ n=.own b->φ' n=.own b->Shape w w' b
def Evo.to0 {X:Nat->Nat->Prop}{φ φ':Nat->FSlot}{w w':World}(h:Evo X φ w φ' w'):Evo0 X φ w φ' w':=⟨h.os,h.tape,h.output,h.size,h.dat,h.dead,h.own,h.tok,h.far,h.mat,h.shape⟩
section
variable {X : Nat -> Nat -> Prop} {φ φ' φ'' : Nat -> FSlot} {w w' w'' : World}
def Evo.refl:Evo X φ w φ w:=⟨rfl,rfl,rfl,Xay _,fun _ _ _=>rfl,fun _ h=>.inl h,fun _ _ h=>⟨h,rfl⟩,fun _ h=>h,fun _ _ h=>.inl h,fun _ _ h=>.inr ⟨h,fun _ _ _=>rfl⟩,fun _ Y h=>.inr ⟨Y,h⟩,fun _ bs h=>.inr ⟨bs,h,.refl bs⟩,fun _ _ _ _=>.same rfl⟩
def Evo.trans (h:Evo X φ w φ' w') (k:Evo X φ' w' φ'' w''):Evo X φ w φ'' w'' where
 os:=k.os.trans h.os
 tape:=k.tape.trans h.tape
 output:=k.output.trans h.output
 size:=Xcn h.size k.size
 blk:=fun b hb hn=>by
  have hn':¬Qnz φ' b:=fun hh=>by
   rcases h.new b hh with h1 |h1
   ·exact hn h1
   omega
  rw[k.blk b (Xbc hb h.size) hn',h.blk b hb hn]
 new:=fun b hb=>by
  rcases k.new b hb with h1 |h1
  ·exact h.new b h1
  exact .inr (Xcn h.size h1)
 dat:=fun b off hd=>by
  obtain⟨h1,h2⟩:=h.dat b off hd
  obtain⟨k1,k2⟩:=k.dat b off h1
  exact⟨k1,k2.trans h2⟩
 dead:=fun n hn=>k.dead n (h.dead n hn)
 own:=fun n b hn=>by
  rcases h.own n b hn with h1 |h1
  ·exact k.own n b h1
  exact .inr (k.dead n h1)
 tok:=fun n t hn=>by
  rcases h.tok n t hn with h1 |⟨h1,h2⟩
  ·exact .inl (k.dead n h1)
  rcases k.tok n t h1 with k1 |⟨k1,k2⟩
  ·exact .inl k1
  exact .inr ⟨k1,fun b L hbl=>(k2 b L hbl).trans (h2 b L hbl)⟩
 far:=fun n Y hn=>by
  rcases h.far n Y hn with h1 |⟨Y',h1⟩
  ·exact .inl (k.dead n h1)
  exact k.far n Y' h1
 mat:=fun n bs hn=>by
  rcases h.mat n bs hn with h1 |⟨bs',h1,hl⟩
  ·exact .inl (k.dead n h1)
  rcases k.mat n bs' h1 with k1 |⟨bs'',k1,kl⟩
  ·exact .inl k1
  exact .inr ⟨bs'',k1,hl.trans kl⟩
 shape:=fun n b hn hn''=>by
  rcases h.own n b hn with h1 |h1
  ·exact(h.shape n b hn h1).trans (k.shape n b h1 hn'')
  rw[k.dead n h1] at hn'';cases hn''
def Evo0.unused (h:Evo0 X φ w φ' w') {n:Nat}(hn:φ n≠.unused):φ' n≠.unused:=by
 cases hf:φ n with
 |unused=>exact absurd hf hn
 |dead=>rw[h.dead n hf];simp
 |own b=>rcases h.own n b hf with e |e<;>rw[e]<;>simp
 |tok t=>rcases h.tok n t hf with e |⟨e,_⟩<;>rw[e]<;>simp
 |far Y=>rcases h.far n Y hf with e |⟨Y',e⟩<;>rw[e]<;>simp
 |mat bs=>rcases h.mat n bs hf with e |⟨bs',e,_⟩<;>rw[e]<;>simp
def Evo0.own' (h:Evo0 X φ w φ' w') {n b:Nat}(hn:φ n≠.unused) (hb:φ' n=.own b):φ n=.own b:=by
 cases hf:φ n with
 |unused=>exact absurd hf hn
 |dead=>have:=h.dead n hf;rw[this] at hb;cases hb
 |own b'=>rcases h.own n b' hf with e |e<;>rw[e] at hb<;>cases hb;rfl
 |tok t=>rcases h.tok n t hf with e |⟨e,_⟩<;>rw[e] at hb<;>cases hb
 |far Y=>rcases h.far n Y hf with e |⟨Y',e⟩<;>rw[e] at hb<;>cases hb
 |mat bs=>rcases h.mat n bs hf with e |⟨bs',e,_⟩<;>rw[e] at hb<;>cases hb
def Evo0.mat' (h:Evo0 X φ w φ' w') {n:Nat}{bs':List (Option Nat)}(hn:φ n≠.unused) (hb:φ' n=.mat bs'):∃bs,φ n=.mat bs/\MatLe bs bs':=by
 cases hf:φ n with
 |unused=>exact absurd hf hn
 |dead=>have:=h.dead n hf;rw[this] at hb;cases hb
 |own b'=>rcases h.own n b' hf with e |e<;>rw[e] at hb<;>cases hb
 |tok t=>rcases h.tok n t hf with e |⟨e,_⟩<;>rw[e] at hb<;>cases hb
 |far Y=>rcases h.far n Y hf with e |⟨Y',e⟩<;>rw[e] at hb<;>cases hb
 |mat bs=>rcases h.mat n bs hf with e |⟨bs2,e,hl⟩<;>rw[e] at hb<;>cases hb;exact⟨bs,rfl,hl⟩
def Evo.unused (h:Evo X φ w φ' w') {n:Nat}(hn:φ n≠.unused):φ' n≠.unused:=h.to0.unused hn
def Evo.own' (h:Evo X φ w φ' w') {n b:Nat}(hn:φ n≠.unused) (hb:φ' n=.own b):φ n=.own b:=h.to0.own' hn hb
def DatOK.evo0 {m:Nat}{xs:List (List AV)}{A:Option Addr}{len cap:Nat}{g:Nat->Nat->Value}(h:DatOK X φ w m xs A len cap g) (e:Evo0 X φ w φ' w'):DatOK X φ' w' m xs A len cap g:=
 ⟨h.hlen,h.hcap,h.hmost,h.hsize,fun hx=>by
  obtain⟨b,o,hA,hc⟩:=h.hcells hx
  exact⟨b,o,hA,fun j x hj i hi=>by
   obtain⟨h1,h2⟩:=hc j x hj i hi
   obtain⟨e1,e2⟩:=e.dat _ _ h1
   exact⟨e1,e2.trans h2⟩⟩⟩
def RelV.evo0 {a:AV}{v:Value}(h:RelV X φ w a v) (e:Evo0 X φ w φ' w'):RelV X φ' w' a v:=by
 induction h with
 |any v=>exact .any v
 |lit v=>exact .lit v
 |agg l vs hs _ ih=>exact .agg l vs hs ih
 |tup l vs hs _ ih=>exact .tup l vs hs ih
 |fn f first cap us vs hu hv _ _ ih1 ih2=>exact .fn f first cap us vs hu hv ih1 ih2
 |dat m xs A len cap g ok _ ih=>exact .dat m xs A len cap g (ok.evo0 e) ih
 |dptr cs i b o g hc _ ih=>
  refine .dptr cs i b o g (fun k hk=>?_) ih
  obtain⟨h1,h2⟩:=hc k hk
  obtain⟨e1,e2⟩:=e.dat _ _ h1
  exact⟨e1,e2.trans h2⟩
 |ref n m j i A hn h=>exact .ref n m j i A (e.unused hn) (fun b hb=>h b (e.own' hn hb))
 |own n m j len A cap hc hm hn h=>exact .own n m j len A cap hc hm (e.unused hn) (fun b hb=>h b (e.own' hn hb))
 |acc n ty m xs A len cap g ok _ hn ht ih=>
  refine .acc n ty m xs A len cap g (ok.evo0 e) ih (e.unused hn) (fun t hb=>?_)
  cases hf:φ n with
  |unused=>exact absurd hf hn
  |dead=>have:=e.dead n hf;rw[this] at hb;cases hb
  |own b'=>rcases e.own n b' hf with e' |e'<;>rw[e'] at hb<;>cases hb
  |far Y=>rcases e.far n Y hf with e' |⟨Y',e'⟩<;>rw[e'] at hb<;>cases hb
  |mat bs=>rcases e.mat n bs hf with e' |⟨bs',e',_⟩<;>rw[e'] at hb<;>cases hb
  |tok t'=>
   rcases e.tok n t' hf with e' |⟨e',hu⟩<;>rw[e'] at hb<;>cases hb
   have:=ht t hf
   unfold Tip at this ⊢
   cases t with
   |none=>exact this
   |some p=>
    obtain⟨b,L⟩:=p
    obtain⟨h1,h2,cur,h3,h4⟩:=this
    exact⟨h1,h2,cur,(hu b L rfl).trans h3,h4⟩
 |gro n ty m len A cap hc hm hn hv h=>
  refine .gro n ty m len A cap hc hm (e.unused hn) (fun hb=>?_) (fun b hb=>?_)
  ·cases hf:φ n with
   |unused=>exact absurd hf hn
   |dead=>have:=e.dead n hf;rw[this] at hb;cases hb
   |own b'=>rcases e.own n b' hf with e' |e'<;>rw[e'] at hb<;>cases hb
   |far Y=>rcases e.far n Y hf with e' |⟨Y',e'⟩<;>rw[e'] at hb<;>cases hb
   |mat bs=>rcases e.mat n bs hf with e' |⟨bs',e',_⟩<;>rw[e'] at hb<;>cases hb
   |tok t'=>rcases e.tok n t' hf with e' |⟨e',_⟩<;>rw[e'] at hb<;>cases hb;exact hv hf
  have hb':=e.own' hn hb
  obtain⟨h1,cur,h2,h3⟩:=h b hb'
  obtain⟨cur',h4,h5⟩:=e.shape n b hb' hb cur ty _ h2
  exact⟨h1,cur',h4,h5.trans h3⟩
 |row n k m j len A cap hc hm hn h=>
  refine .row n k m j len A cap hc hm (e.unused hn) fun h0 bs' hb=>?_
  obtain⟨bs,h1,h2⟩:=e.mat' hn hb
  exact⟨Xbc (h h0 bs h1).1 h2.1,fun b hk=>(h h0 bs h1).2 b (h2.2 k b (h h0 bs h1).1 hk)⟩
 |rowp n k m j i A hn h=>
  refine .rowp n k m j i A (e.unused hn) fun bs' hb=>?_
  obtain⟨bs,h1,h2⟩:=e.mat' hn hb
  exact⟨Xbc (h bs h1).1 h2.1,fun b hk=>(h bs h1).2 b (h2.2 k b (h bs h1).1 hk)⟩
 |mp n A hn h=>exact .mp n A (e.unused hn) (fun b hb=>h b (e.own' hn hb))
def RelV.evo {a:AV}{v:Value}(h:RelV X φ w a v) (e:Evo X φ w φ' w'):RelV X φ' w' a v:=h.evo0 e.to0
def DatOK.evo {m:Nat}{xs:List (List AV)}{A:Option Addr}{len cap:Nat}{g:Nat->Nat->Value}(h:DatOK X φ w m xs A len cap g) (e:Evo X φ w φ' w'):DatOK X φ' w' m xs A len cap g:=h.evo0 e.to0
end
inductive Slot where
 |unused
 |dead
 |own (m:Nat) (xs:List (List AV))
 |tok
 |gro (m:Nat) (xs:List (List AV))
 |far (J:(Nat->Nat->Prop)->(Nat->Nat->Prop)->World->Prop)
 |mat (m:Nat) (rows:List (List (List AV)))
 |mp (es:Array MapEntry) (clock:Nat)
section
variable (X : Nat -> Nat -> Prop) (φ : Nat -> FSlot) (w : World)
structure Q32 (Y D:Nat->Nat->Prop) (B:World):Prop where
 own:∀b off,Y b off->b<w.heap.size/\w.heap[b]? = B.heap[b]? /\ ∀off',¬X b off'
 dat:∀b off,D b off->¬Y b off->DataAt X φ w b off/\w.cell? ⟨b,off,none⟩=B.cell? ⟨b,off,none⟩
 os:w.os=B.os
 tape:w.tape=B.tape
 output:w.output=B.output
 size:B.heap.size<=w.heap.size
end
section
variable (X : Nat -> Nat -> Prop) (φ : Nat -> FSlot) (w : World)
structure OwnOK (b m:Nat) (xs:List (List AV)):Prop where
 blk:∃cur ty,w.heap[b]? = some (.cells cur ty (0,0))/\xs.length*m<=cur.size/\(∀x∈xs,x.length=m)/\(∀j x,xs[j]? = some x->∀i a,x[i]? = some a->RelV X φ w a (cur.getD (j*m+i) undef))
 hid:∀off,¬X b off
structure MpOK (b:Nat) (es:Array MapEntry) (clock:Nat):Prop where
 blk:w.heap[b]? = some (.map es clock)
 hid:∀off,¬X b off
def SlotOK (n:Nat):Slot->Prop
 |.unused=>φ n=.unused
 |.dead=>φ n=.dead
 |.own m xs=>∃b,φ n=.own b/\OwnOK X φ w b m xs
 |.tok=>∃t,φ n=.tok t/\∀b L,t=some (b,L)->(∃cur ty s,w.heap[b]? = some (.cells cur ty s))/\∀off,¬X b off
 |.gro m xs=>(xs=[]/\φ n=.tok none)\/∃b,φ n=.own b/\OwnOK X φ w b m xs
 |.far J=>∃Y D B,φ n=.far Y/\J Y D B/\Q32 X φ w Y D B
 |.mat m rows=>∃bs,φ n=.mat bs/\bs.length=rows.length/\(∀(k k' b:Nat),bs[k]? = some (some b)->bs[k']? = some (some b)->k=k') /\
   ∀(k:Nat) (xs:List (List AV)),rows[k]? = some xs->(xs=[]/\bs[k]? = some none)\/∃b,bs[k]? = some (some b)/\OwnOK X φ w b m xs
 |.mp es clock=>∃b,φ n=.own b/\MpOK X w b es clock
def Qdu:Prop:=∀n n' b,(φ n).lies b->(φ n').lies b->n=n'
structure Qo4 (σ:Nat->Slot):Prop where
 slot:∀n,SlotOK X φ w n (σ n)
 distinct:Qdu φ
 hid:∀b off,X b off->b<w.heap.size
end
section
variable {X : Nat -> Nat -> Prop} {φ φ' : Nat -> FSlot} {w w' : World}
def OwnOK.lt {b m:Nat}{xs:List (List AV)}(h:OwnOK X φ w b m xs):b<w.heap.size:=by
 obtain⟨cur,ty,h,_⟩:=h.blk
 exact(Xa3.1 h).1
def SlotOK.evo0 {n:Nat}{s:Slot}(h:SlotOK X φ w n s) (e:Evo0 X φ w φ' w') (hn:φ' n=φ n) (hb:∀b,(φ n).lies b->w'.heap[b]? = w.heap[b]?):SlotOK X φ' w' n s:=by
 cases s with
 |unused=>exact hn.trans h
 |dead=>exact hn.trans h
 |own m xs=>
  obtain⟨b,h1,⟨cur,ty,h2,h3,h4,h5⟩,h6⟩:=h
  exact⟨b,hn.trans h1,⟨cur,ty,(hb b (.inl h1)).trans h2,h3,h4,fun j x hj i a hi=>(h5 j x hj i a hi).evo0 e⟩,h6⟩
 |tok=>
  obtain⟨t,h1,h2⟩:=h
  exact⟨t,hn.trans h1,fun b L hbl=>⟨by rw[hb b (.tok (by rw[h1,hbl]))];exact(h2 b L hbl).1,(h2 b L hbl).2⟩⟩
 |gro m xs=>
  rcases h with ⟨h1,h2⟩ |⟨b,h1,⟨cur,ty,h2,h3,h4,h5⟩,h6⟩
  ·exact .inl ⟨h1,hn.trans h2⟩
  exact .inr ⟨b,hn.trans h1,⟨cur,ty,(hb b (.inl h1)).trans h2,h3,h4,fun j x hj i a hi=>(h5 j x hj i a hi).evo0 e⟩,h6⟩
 |far J=>
  obtain⟨Y,D,B,h1,h2,h3⟩:=h
  exact⟨Y,D,B,hn.trans h1,h2,⟨fun b off hy=>⟨Xbc (h3.own b off hy).1 e.size,(hb b (.far h1 hy)).trans (h3.own b off hy).2.1,(h3.own b off hy).2.2⟩,
   fun b off hx hy=>⟨(e.dat b off (h3.dat b off hx hy).1).1,(e.dat b off (h3.dat b off hx hy).1).2.trans (h3.dat b off hx hy).2⟩,
   e.os.trans h3.os,e.tape.trans h3.tape,e.output.trans h3.output,Xcn h3.size e.size⟩⟩
 |mat m rows=>
  obtain⟨bs,h1,h2,h3,h4⟩:=h
  refine⟨bs,hn.trans h1,h2,h3,fun k xs hx=>?_⟩
  rcases h4 k xs hx with h5 |⟨b,hk,⟨cur,ty,c2,c3,c4,c5⟩,c6⟩
  ·exact .inl h5
  exact .inr ⟨b,hk,⟨cur,ty,(hb b (.mat h1 hk)).trans c2,c3,c4,fun j x hj i a hi=>(c5 j x hj i a hi).evo0 e⟩,c6⟩
 |mp es clock=>
  obtain⟨b,h1,h2,h3⟩:=h
  exact⟨b,hn.trans h1,(hb b (.inl h1)).trans h2,h3⟩
def SlotOK.evo {n:Nat}{s:Slot}(h:SlotOK X φ w n s) (e:Evo X φ w φ' w') (hn:φ' n=φ n) (hb:∀b,(φ n).lies b->w'.heap[b]? = w.heap[b]?):SlotOK X φ' w' n s:=h.evo0 e.to0 hn hb
def SlotOK.lt {n:Nat}{s:Slot}(h:SlotOK X φ w n s) {b:Nat}(hb:(φ n).lies b):b<w.heap.size:=by
 cases s with
 |unused=>
  have h':φ n=.unused:=h
  rw[h'] at hb
  exact(Qf1 hb).elim
 |dead=>
  have h':φ n=.dead:=h
  rw[h'] at hb
  exact(Qba hb).elim
 |own m xs=>
  obtain⟨b',h1,h2⟩:=h
  rw[h1] at hb
  obtain rfl:=Qir hb
  exact h2.lt
 |tok=>
  obtain⟨t,h1,h2⟩:=h
  rw[h1] at hb
  obtain⟨L,rfl⟩:=Qqx hb
  obtain⟨_,_,_,h3⟩:=(h2 b L rfl).1
  exact(Xa3.1 h3).1
 |gro m xs=>
  rcases h with ⟨h1,h2⟩ |⟨b',h1,h2⟩
  ·rw[h2] at hb
   exact(Qe7 hb).elim
  rw[h1] at hb
  obtain rfl:=Qir hb
  exact h2.lt
 |far J=>
  obtain⟨Y,D,B,h1,h2,h3⟩:=h
  rw[h1] at hb
  obtain⟨off,hy⟩:=Qqy hb
  exact(h3.own b off hy).1
 |mat m rows=>
  obtain⟨bs,h1,h2,h3,h4⟩:=h
  rw[h1] at hb
  obtain⟨k,hk⟩:=Q24 hb
  have hlt:k<rows.length:=h2▸(Xad.1 hk).1
  rcases h4 k _ (Xab hlt) with ⟨_,h5⟩ |⟨b',h5,h6⟩
  ·rw[h5] at hk;cases hk
  rw[h5] at hk;cases hk;exact h6.lt
 |mp es clock=>
  obtain⟨b',h1,h2,_⟩:=h
  rw[h1] at hb
  obtain rfl:=Qir hb
  exact(Xa3.1 h2).1
end
structure AS where
 regs:List AV
 own:List Slot
def AS.slot (s:AS) (n:Nat):Slot:=s.own.getD n .unused
def Q5g (a b:Nat):Nat:=(a+b)*(a+b)+a
def Q5f {a b c d:Nat}(h:Q5g a b=Q5g c d):a=c/\b=d:=by
 have key:∀x y u v:Nat,x+y<u+v->Q5g x y<Q5g u v:=fun x y u v hl=>by
  unfold Q5g
  have h1:(x+y+1)*(x+y+1)<=(u+v)*(u+v):=Nat.mul_le_mul hl hl
  have h2:(x+y+1)*(x+y+1)=(x+y)*(x+y)+(x+y)+(x+y)+1:=by rw[Xcu,Nat.mul_add];omega
  omega
 rcases Xc5 (a+b) (c+d) with h1 |h1 |h1
 ·have:=key _ _ _ _ h1;omega
 ·unfold Q5g at h;rw[h1] at h;omega
 have:=key _ _ _ _ h1;omega
def Zdm:List Nat->Nat
 |[]=>0
 |b::l=>Q5g b (Zdm l)+1
def Q6e:∀{l k:List Nat},Zdm l=Zdm k->l=k
 |[],[],_=>rfl
 |[],_::_,h=>by simp[Zdm] at h
 |_::_,[],h=>by simp[Zdm] at h
 |a::l,b::k,h=>by
  obtain⟨h1,h2⟩:=Q5f (Nat.add_right_cancel h)
  rw[h1,Q6e h2]
def dclo (g:Nat) (bs:List Nat):Deferred:={ target:=.fn (.func g) (bs.map fun b=>Value.pointer (some ⟨b,0,none⟩)).toArray,args := #[] }
def Qum (g:Nat) (bs:List Nat):Nat:=Q5g g (Zdm bs)+2
noncomputable def Quv (w0:World):List Deferred:=open Classical in if h:∃p:Nat×List Nat,Qum p.1 p.2=w0.drawn then[dclo h.choose.1 h.choose.2] else[]
def Qr2 {w0:World}(h:w0.drawn<=1):Quv w0=[]:=by
 unfold Quv
 rw[dif_neg]
 rintro ⟨p,hp⟩
 unfold Qum at hp
 omega
def Qsg {w0:World}(h:w0.drawn=0):Quv w0=[]:=Qr2 (by omega)
def Q1d {w0:World}{g:Nat}{bs:List Nat}(h:w0.drawn=Qum g bs):Quv w0=[dclo g bs]:=by
 unfold Quv
 have he:∃p:Nat×List Nat,Qum p.1 p.2=w0.drawn:=⟨(g,bs),h.symm⟩
 rw[dif_pos he]
 have hs:=he.choose_spec.trans h
 obtain⟨h1,h2⟩:=Q5f (Nat.add_right_cancel hs)
 rw[h1,Q6e h2]
def Marks (φ:Nat->FSlot) (w0 w:World) (ds:List Deferred):Prop:=∃l:List Nat,ds=l.map (fun D=>{ target:=.collected D,args := #[] })++Quv w0/\(w0.drawn=1->l=[])/\l.Nodup/\∀D∈l,w0.heap.size<=D/\w.heap[D]? = some (.deferred (some []))/\¬Qnz φ D
structure Sim (X:Nat->Nat->Prop) (φ0:Nat->FSlot) (w0:World) (φ:Nat->FSlot) (s:AS) (a:Act) (w:World):Prop where
 low:∀n b,(φ0 n).lies b->b<w0.heap.size
 defers:Marks φ w0 w a.defers
 size:a.tmps.size=s.regs.length
 regs:∀t v,s.regs[t]? = some v->RelV X φ w v (a.tmps.getD t undef)
 env:Qo4 X φ w s.slot
 evo:Evo X φ0 w0 φ w
def Marks.base (φ:Nat->FSlot) (w0 w:World):Marks φ w0 w (Quv w0):=⟨[],rfl,fun _=>rfl,Xfg,by simp⟩
def Marks.nil0 (φ:Nat->FSlot) {w0:World}(w:World) (h:w0.drawn=0):Marks φ w0 w []:=⟨[],by rw[Qsg h];rfl,fun _=>rfl,Xfg,by simp⟩
def Marks.nil1 (φ:Nat->FSlot) {w0:World}(w:World) (h:w0.drawn<=1):Marks φ w0 w []:=⟨[],by rw[Qr2 h];rfl,fun _=>rfl,Xfg,by simp⟩
def Evo.to_at {X:Nat->Nat->Prop}{φ φ':Nat->FSlot}{w w':World}{k:Nat}(h:Evo X φ w φ' w'):Evo X φ { w with drawn:=k } φ' w':=
 ⟨h.os,h.tape,h.output,h.size,h.blk,h.new,fun b off hd=>h.dat b off ⟨hd.lt,hd.hid,hd.own,hd.tok,hd.far,hd.mat⟩,h.dead,h.own,h.tok,h.far,h.mat,h.shape⟩
def Evo.of_at {X:Nat->Nat->Prop}{φ φ':Nat->FSlot}{w w':World}{k:Nat}(h:Evo X φ { w with drawn:=k } φ' w'):Evo X φ w φ' w':=
 ⟨h.os,h.tape,h.output,h.size,h.blk,h.new,fun b off hd=>h.dat b off ⟨hd.lt,hd.hid,hd.own,hd.tok,hd.far,hd.mat⟩,h.dead,h.own,h.tok,h.far,h.mat,h.shape⟩
def Marks.to {φ φ':Nat->FSlot}{w0 w w':World}{ds:List Deferred}(h:Marks φ w0 w ds) (hs:∀D:Nat,w.heap[D]? = some (Obj.deferred (some []))->¬Qnz φ D->w'.heap[D]? = w.heap[D]? /\ ¬Qnz φ' D):Marks φ' w0 w' ds:=by
 obtain⟨l,h1,h0,h2,h3⟩:=h
 exact⟨l,h1,h0,h2,fun D hD=>⟨(h3 D hD).1,(hs D (h3 D hD).2.1 (h3 D hD).2.2).1.trans (h3 D hD).2.1,(hs D (h3 D hD).2.1 (h3 D hD).2.2).2⟩⟩
def Marks.evo {X:Nat->Nat->Prop}{φ φ':Nat->FSlot}{w0 w w':World}{ds:List Deferred}(h:Marks φ w0 w ds) (e:Evo X φ w φ' w'):Marks φ' w0 w' ds:=
 h.to fun D hD hn=>⟨e.blk D (Xa3.1 hD).1 hn,fun hh=>by
  rcases e.new D hh with h1 |h1
  ·exact hn h1
  have:=(Xa3.1 hD).1
  omega⟩
def Zir {X:Nat->Nat->Prop}{φ:Nat->FSlot}{w w':World}{row:Option Nat}(hg:w.grownBy w' row) (hr:∀r,row=some r->¬Qnz φ r/\(∃o:Obj,w.heap[r]? = some o/\o.isCells=false)/\∃o:Obj,w'.heap[r]? = some o/\o.isCells=false) (hc:∀n b,(φ n).lies b->b<w.heap.size):Evo0 X φ w φ w':=by
 have key:∀n b,(φ n).lies b->w'.heap[b]? = w.heap[b]? := fun n b h=>hg.block b (hc n b h) fun e=>(hr b e.symm).1 ⟨n,h⟩
 refine⟨hg.os,hg.tape,hg.output,hg.size,fun b off hd=>⟨⟨Xbc hd.lt hg.size,hd.hid,hd.own,hd.tok,hd.far,hd.mat⟩,?_⟩,fun _ h=>h,fun _ _ h=>.inl h,fun n t h=>.inr ⟨h,fun b L hb=>?_⟩,fun _ Y h=>.inr ⟨Y,h⟩,fun _ bs h=>.inr ⟨bs,h,.refl bs⟩,fun n b h _=>.same ?_⟩
 ·unfold World.cell?
  by_cases e:row=some b
  ·obtain⟨_,⟨o,ho,hk⟩,o',ho',hk'⟩:=hr b e
   dsimp only
   rw[ho,ho']
   cases o<;>cases o'<;>first |rfl |(cases hk;done) |(cases hk';done)
  dsimp only
  rw[hg.block b hd.lt (fun h=>e h.symm)]
 ·exact key n b (.tok (L:=L) (by rw[h,hb]))
 exact key n b (.own h)
def opd (regs:List AV):Operand->AV
 |.tmp t=>regs.getD t .any
 |.const v=>.lit v
 |.global g=>.lit (.pointer (some ⟨g,0,none⟩))
 |.func f=>.fn (.func f) [] []
def Sim.opd {X:Nat->Nat->Prop}{φ0 φ:Nat->FSlot}{w0 w:World}{s:AS}{a:Act}(h:Sim X φ0 w0 φ s a w) (x:Operand):RelV X φ w (opd s.regs x) (a.eval x):=by
 cases x with
 |tmp t=>
  simp only[Go.Proofs.YtcoojdacfknboafGreat.opd,Act.eval,Xaj]
  cases ht:s.regs[t]? with
  |none=>exact .any _
  |some v=>exact h.regs t v ht
 |const v=>exact .lit v
 |global g=>exact .lit _
 |func f=>exact .fn _ _ _ _ _ rfl rfl (by simp) (by simp)
end
section
def FR (ro:Option Nat):Fence:={ Fence.wide with round:=ro }
def Qvw {ro:Option Nat}{n:Nat}{P:Program}{f:FuncId}{args:Array Value}{w:World}{R:Ending->World->Prop}:CallsIn (FR ro) n P f args w R↔Calls P f args w R:=Xg2 (n:=n)
def Does (P:Program) (o:Oper) (a:Act) (w:World) (next:Act->World->Prop) (Q:Exit->Act->World->Prop):Prop:=∀ro,o.wpIn (FR ro) 0 P a w next Q
def Qop {P:Program}{o:Oper}{ρ:Operand->Value}{w w':World}{x:Next}(h:(execOp ρ o).run P w=.ok x w') (hx:∀d,x≠.defer d):∀c,o.op≠.defer c:=fun c hc=>by
 simp only[execOp,hc,Xav] at h
 cases hr:(resolve ρ c o.type).run P w with
 |ok d w1=>
  rw[hr] at h
  simp only[Xao,Xcr,Result.ok.injEq] at h
  exact hx _ h.1.symm
 |halt e w1=>rw[hr] at h;cases h
def Qkd {P:Program}{o:Oper}{a:Act}{w w':World}{next:Act->World->Prop}{Q:Exit->Act->World->Prop}{v:Value}(h:(execOp a.eval o).run P w=.ok (.value v) w') (k:next (a.put o.dst v) w'):Does P o a w next Q:=fun ro=>by
 refine⟨fun _ _=>trivial,?_⟩
 rw[Xf2 _ _ _ (Qop h fun d e=>by cases e),h]
 exact k
def Q6b {P:Program}{o:Oper}{a:Act}{w w':World}{next:Act->World->Prop}{Q:Exit->Act->World->Prop}(h:(execOp a.eval o).run P w=.ok .skip w') (k:next (a.put o.dst undef) w'):Does P o a w next Q:=fun ro=>by
 refine⟨fun _ _=>trivial,?_⟩
 rw[Xf2 _ _ _ (Qop h fun d e=>by cases e),h]
 exact k
def Zdj {P:Program}{o:Oper}{a:Act}{w w':World}{next:Act->World->Prop}{Q:Exit->Act->World->Prop}{f:FuncId}{args:Array Value}(h:(execOp a.eval o).run P w=.ok (.enter f args) w') (k:Calls P f args w' fun e w''=>∃v,e=.returned v/\next (a.put o.dst v) w''):Does P o a w next Q:=fun ro=>by
 refine⟨fun _ _=>trivial,?_⟩
 rw[Xf2 _ _ _ (Qop h fun d e=>by cases e),h]
 refine⟨fun e=>(by cases e),Qvw.2 (k.mono ?_)⟩
 rintro e w2 ⟨v,rfl,hk⟩
 exact hk
def Qd0 (P:Program) (o:Oper) (rd:List (Operand×AV)) (bl:List (Nat×Slot)) (r:AV) (eff:List (Nat×Slot)):Prop:=
 ∀(X:Nat->Nat->Prop) (φ:Nat->FSlot) (a:Act) (w:World),(∀p∈rd,RelV X φ w p.2 (a.eval p.1))->(∀p∈bl,SlotOK X φ w p.1 p.2)->Qdu φ->(∀b off,X b off->b<w.heap.size) ->
  (∀n b,(φ n).lies b->b<w.heap.size) ->
  ∀(next:Act->World->Prop) (Q:Exit->Act->World->Prop),
   (∀v φ' w',RelV X φ' w' r v->(∀p∈eff,SlotOK X φ' w' p.1 p.2)->Qdu φ'->(∀n,n∉eff.map (·.1)->φ' n=φ n) ->
    (∀b,b<w.heap.size->(∀p∈eff,¬(φ p.1).lies b)->w'.heap[b]? = w.heap[b]?)->Evo X φ w φ' w'->next (a.put o.dst v) w')->Does P o a w next Q
structure Rec where
 rd:List (Operand×AV)
 bl:List (Nat×Slot)
 r:AV
 eff:List (Nat×Slot)
 skip:Bool
def putA (regs:List AV) (dst:Option Tmp) (r:AV):List AV:=match dst with |some d=>regs.set d r |none=>regs
def setL:List Slot->Nat->Slot->List Slot
 |[],0,s=>[s]
 |[],n+1,s=>.unused::setL [] n s
 |_::l,0,s=>s::l
 |x::l,n+1,s=>x::setL l n s
def setE (own:List Slot):List (Nat×Slot)->List Slot
 |[]=>own
 |p::l=>setE (setL own p.1 p.2) l
def runL:List (Oper×Rec)->List AV->List Slot->List (List AV×List Slot)×List AV×List Slot
 |[],regs,own=>([],regs,own)
 |(o,c)::l,regs,own=>
  ((c.rd.map (fun p=>opd regs p.1),c.bl.map (fun p=>own.getD p.1 .unused))::(runL l (putA regs o.dst c.r) (setE own c.eff)).1,(runL l (putA regs o.dst c.r) (setE own c.eff)).2)
def AV.isAny:AV->Bool
 |.any=>true
 |_=>false
def AV.isUndef:AV->Bool
 |.lit (.tuple vs)=>vs.isEmpty
 |_=>false
def Qzi:Value->Option Bool
 |.bool b=>some b
 |_=>none
def Q29 (ops:Array Oper) (o:Oper) (c:Rec):Bool:=
 match o.guard with
 |none=>!c.skip
 |some (j,want)=>match c.rd with
  |(.tmp d,.lit v)::_=>((ops[j]?).bind (·.dst))==some d&&c.skip==(Qzi v != some want)&&(!c.skip||(c.r.isUndef&&c.eff.isEmpty))
  |_=>false
def Rec.slots (c:Rec):List Tmp:=c.rd.filterMap fun p=>match p.1 with |.tmp t=>some t |_=>none
def Qrf (o:Oper) (c:Rec) (o':Oper) (c':Rec):Bool:=
 (match o.dst with |some d=>c'.slots.contains d||o'.dst==some d |none=>false) ||
 (match o'.dst with |some d=>c.slots.contains d |none=>false) ||
 (c.eff.any fun p=>c'.bl.any fun q=>p.1==q.1)||(c'.eff.any fun p=>c.bl.any fun q=>p.1==q.1)
def Zn8 (acc:List Nat) (o:Oper):Nat:=o.after.toList.foldl (fun s e=>if Region.binds .any e then s |||(2 ^ e.on |||acc.getD e.on 0) else s) 0
def Qjg:List (Oper×Rec)->List (Oper×Rec)->List Nat->Bool
 |[],_,_=>true
 |(o,c)::l,pre,acc=>
  (o.after.all fun e=>!Region.binds .any e||e.on<pre.length) &&
  ((List.range pre.length).all fun j=>(Zn8 acc o).testBit j||(match pre[j]? with |some (o',c')=>!Qrf o' c' o c |none=>true)) &&
  Qjg l (pre++[(o,c)]) (acc++[Zn8 acc o])
def Zbg (ops:Array Oper) (l:List (Oper×Rec)) (n:Nat):Bool:=
 l.all fun p=>Q29 ops p.1 p.2&&(match p.1.dst with |some d=>d<n |none=>true)&&(p.2.eff.all fun q=>p.2.bl.any fun r=>q.1==r.1)
def valS:List (Oper×Rec)->Nat->(Nat->Bool)->AV->Tmp->AV
 |[],_,_,v,_=>v
 |(o,c)::l,i,S,v,t=>valS l (i+1) S (if S i&&o.dst==some t then c.r else v) t
def Qq1 (n:Nat):List (Nat×Slot)->Slot->Slot
 |[],s=>s
 |p::l,s=>Qq1 n l (if p.1=n then p.2 else s)
def Qo9:List (Oper×Rec)->Nat->(Nat->Bool)->Slot->Nat->Slot
 |[],_,_,s,_=>s
 |(_,c)::l,i,S,s,n=>Qo9 l (i+1) S (if S i then Qq1 n c.eff s else s) n
def Qr8 {t:Tmp}{S S':Nat->Bool}:∀(l:List (Oper×Rec)) (i:Nat) (v:AV),(∀j p,l[j]? = some p->(S (i+j)&&p.1.dst==some t)=(S' (i+j)&&p.1.dst==some t))->valS l i S v t=valS l i S' v t
 |[],_,_,_=>rfl
 |p::l,i,v,h=>by
  have h0:=h 0 p rfl
  simp only[Xdq] at h0
  simp only[valS,h0]
  exact Qr8 l (i+1) _ fun j q hj=>by
   have:=h (j+1) q (by simpa using hj)
   rwa [show i+(j+1)=i+1+j from by omega] at this
def Qty {t:Tmp}{S:Nat->Bool}:∀(l:List (Oper×Rec)) (i:Nat) (v:AV),(∀j p,l[j]? = some p->(S (i+j)&&p.1.dst==some t)=false)->valS l i S v t=v
 |[],_,_,_=>rfl
 |p::l,i,v,h=>by
  have h0:=h 0 p rfl
  simp only[Xdq] at h0
  simp only[valS,h0]
  exact Qty l (i+1) v fun j q hj=>by
   have:=h (j+1) q (by simpa using hj)
   rwa [show i+(j+1)=i+1+j from by omega] at this
def Q4n {t:Tmp}{S:Nat->Bool}:∀(l:List (Oper×Rec)) (i k:Nat) (v:AV) (o:Oper) (c:Rec),l[k]? = some (o,c)->S (i+k)=true->o.dst=some t->(∀j p,k<j->l[j]? = some p->(S (i+j)&&p.1.dst==some t)=false)->valS l i S v t=c.r
 |[],_,k,_,_,_,h,_,_,_=>by simp at h
 |p::l,i,0,v,o,c,h,hs,hd,hn=>by
  simp at h
  subst h
  simp only[Xdq] at hs
  simp only[valS,hs,hd,Xcc,Xb8,Xe4]
  exact Qty l (i+1) _ fun j q hj=>by
   have:=hn (j+1) q (by omega) (by simpa using hj)
   rwa [show i+(j+1)=i+1+j from by omega] at this
 |p::l,i,k+1,v,o,c,h,hs,hd,hn=>by
  rw[valS]
  exact Q4n l (i+1) k _ o c (by simpa using h) (by rw[show i+1+k=i+(k+1) from by omega];exact hs) hd fun j q hj hq=>by
   have:=hn (j+1) q (by omega) (by simpa using hq)
   rwa [show i+(j+1)=i+1+j from by omega] at this
def Qm0 {n:Nat}:∀{l:List (Nat×Slot)}{s:Slot},n∉l.map (·.1)->Qq1 n l s=s
 |[],_,_=>rfl
 |p::l,s,h=>by
  simp only[Xax,Xa7,not_or] at h
  rw[Qq1,Xat (fun e=>h.1 e.symm)]
  exact Qm0 h.2
def Q6a {n:Nat}:∀{l:List (Nat×Slot)}{s s':Slot},n∈l.map (·.1)->Qq1 n l s=Qq1 n l s'
 |[],_,_,h=>by simp at h
 |p::l,s,s',h=>by
  rw[Qq1,Qq1]
  by_cases e:p.1=n
  ·rw[Xaz e,Xaz e]
  rw[Xat e,Xat e]
  simp only[Xax,Xa7] at h
  exact Q6a (h.resolve_left (fun e'=>e e'.symm))
def Qzf {n:Nat}:∀{l:List (Nat×Slot)}{s:Slot},n∈l.map (·.1)->(n,Qq1 n l s)∈l
 |[],_,h=>by simp at h
 |p::l,s,h=>by
  rw[Qq1]
  by_cases hm:n∈l.map (·.1)
  ·exact Xal _ (Qzf hm)
  rw[Qm0 hm]
  simp only[Xax,Xa7] at h
  have e:=h.resolve_right hm
  rw[Xaz e.symm,e]
  simp
def Qqt {n:Nat}{S S':Nat->Bool}:∀(l:List (Oper×Rec)) (i:Nat) (s:Slot),(∀j p,l[j]? = some p->n∈p.2.eff.map (·.1)->S (i+j)=S' (i+j))->Qo9 l i S s n=Qo9 l i S' s n
 |[],_,_,_=>rfl
 |p::l,i,s,h=>by
  have h0:=h 0 p rfl
  simp only[Xdq] at h0
  have e:(if S i then Qq1 n p.2.eff s else s)=(if S' i then Qq1 n p.2.eff s else s):=by
   by_cases hm:n∈p.2.eff.map (·.1)
   ·rw[h0 hm]
   rw[Qm0 hm];simp
  simp only[Qo9,e]
  exact Qqt l (i+1) _ fun j q hj=>by
   have:=h (j+1) q (by simpa using hj)
   rwa [show i+(j+1)=i+1+j from by omega] at this
def Qr9 {n:Nat}{S:Nat->Bool}:∀(l:List (Oper×Rec)) (i:Nat) (s:Slot),(∀j p,l[j]? = some p->n∈p.2.eff.map (·.1)->S (i+j)=false)->Qo9 l i S s n=s
 |[],_,_,_=>rfl
 |p::l,i,s,h=>by
  have h0:=h 0 p rfl
  simp only[Xdq] at h0
  have e:(if S i then Qq1 n p.2.eff s else s)=s:=by
   by_cases hm:n∈p.2.eff.map (·.1)
   ·rw[h0 hm];simp
   rw[Qm0 hm];simp
  simp only[Qo9,e]
  exact Qr9 l (i+1) _ fun j q hj=>by
   have:=h (j+1) q (by simpa using hj)
   rwa [show i+(j+1)=i+1+j from by omega] at this
def Q0r {n:Nat}{S:Nat->Bool}:∀(l:List (Oper×Rec)) (i k:Nat) (s s':Slot) (o:Oper) (c:Rec),l[k]? = some (o,c)->S (i+k)=true->n∈c.eff.map (·.1)->(∀j p,k<j->l[j]? = some p->n∈p.2.eff.map (·.1)->S (i+j)=false)->Qo9 l i S s n=Qq1 n c.eff s'
 |[],_,k,_,_,_,_,h,_,_,_=>by simp at h
 |p::l,i,0,s,s',o,c,h,hs,hd,hn=>by
  simp at h
  subst h
  simp only[Xdq] at hs
  simp only[Qo9,hs,Xe4]
  rw[Q6a hd (s':=s')]
  exact Qr9 l (i+1) _ fun j q hj=>by
   have:=hn (j+1) q (by omega) (by simpa using hj)
   rwa [show i+(j+1)=i+1+j from by omega] at this
 |p::l,i,k+1,s,s',o,c,h,hs,hd,hn=>by
  rw[Qo9]
  exact Q0r l (i+1) k _ s' o c (by simpa using h) (by rw[show i+1+k=i+(k+1) from by omega];exact hs) hd fun j q hj hq=>by
   have:=hn (j+1) q (by omega) (by simpa using hq)
   rwa [show i+(j+1)=i+1+j from by omega] at this
def Qon:∀(l:List Slot) (n:Nat) (s:Slot) (k:Nat),(setL l n s).getD k .unused=if n=k then s else l.getD k .unused
 |[],0,s,k=>by cases k<;>simp[setL]
 |[],n+1,s,0=>by simp[setL]
 |[],n+1,s,k+1=>by
  have:=Qon [] n s k
  simp only[setL,List.getD_cons_succ,this,Xib]
  simp
 |x::l,0,s,k=>by cases k<;>simp[setL]
 |x::l,n+1,s,0=>by simp[setL]
 |x::l,n+1,s,k+1=>by
  have:=Qon l n s k
  simp only[setL,List.getD_cons_succ,this,Xib]
def Qt6:∀(l:List (Nat×Slot)) (own:List Slot) (k:Nat),(setE own l).getD k .unused=Qq1 k l (own.getD k .unused)
 |[],_,_=>rfl
 |p::l,own,k=>by rw[setE,Qt6 l,Qon,Qq1]
def Qyh (regs:List AV) (d:Option Tmp) (r:AV):(putA regs d r).length=regs.length:=by
 cases d<;>simp[putA]
def Q5c (regs:List AV) (d:Option Tmp) (r:AV) (t:Tmp) (ht:t<regs.length):(putA regs d r).getD t .any=if d==some t then r else regs.getD t .any:=by
 cases d with
 |none=>simp[putA]
 |some e=>
  simp only[putA,Xaj,Xev]
  by_cases h:e=t
  ·subst h;simp[ht]
  simp[h]
def Q2s:∀(l:List (Oper×Rec)) (i:Nat) (regs:List AV) (own:List Slot) (k:Nat) (o:Oper) (c:Rec),l[k]? = some (o,c) ->
  (runL l regs own).1[k]? = some (c.rd.map (fun p=>match p.1 with |.tmp t=>(if t<regs.length then valS l i (fun j=>decide (j<i+k)) (regs.getD t .any) t else .any) |x=>opd regs x),c.bl.map (fun p=>Qo9 l i (fun j=>decide (j<i+k)) (own.getD p.1 .unused) p.1))
 |[],_,_,_,k,_,_,h=>by simp at h
 |q::l,i,regs,own,0,o,c,h=>by
  simp at h
  subst h
  simp only[runL,Xid,Xdv,Xef]
  refine⟨Xdx fun p _=>?_,Xdx fun p _=>?_⟩
  ·cases hp:p.1 with
   |tmp t=>
    dsimp only[opd]
    by_cases ht:t<regs.length
    ·rw[Xaz ht]
     exact(Qty _ _ _ fun j q _=>by rw[show decide (i+j<i+0)=false from Xah (by omega)];rfl).symm
    rw[Xat ht]
    simp[Xbb (Xc9 ht)]
   |_=>rfl
  exact(Qr9 _ _ _ fun j q _ _=>Xah (by omega)).symm
 |(o',c')::l,i,regs,own,k+1,o,c,h=>by
  have ih:=Q2s l (i+1) (putA regs o'.dst c'.r) (setE own c'.eff) k o c (by simpa using h)
  simp only[runL,Xeh]
  rw[ih]
  have hk:(fun j=>decide (j<i+(k+1)))=(fun j=>decide (j<i+1+k)):=by
   funext j
   rw[show i+(k+1)=i+1+k from by omega]
  rw[hk]
  have hi:decide (i<i+1+k)=true:=by simp;omega
  refine Xek some (Prod.ext (Xdx fun p _=>?_) (Xdx fun p _=>?_))
  ·cases hp:p.1 with
   |tmp t=>
    dsimp only
    rw[Qyh]
    by_cases ht:t<regs.length
    ·rw[Xaz ht,Xaz ht,Q5c _ _ _ _ ht,valS]
     simp[hi]
    rw[Xat ht,Xat ht]
   |_=>rfl
  rw[Qt6,Qo9]
  simp[hi]
def Za1:∀(l:List (Oper×Rec)) (i:Nat) (regs:List AV) (own:List Slot),(runL l regs own).2.1.length=regs.length/\(∀t,t<regs.length->(runL l regs own).2.1.getD t .any=valS l i (fun _=>true) (regs.getD t .any) t) /\
  (∀n,(runL l regs own).2.2.getD n .unused=Qo9 l i (fun _=>true) (own.getD n .unused) n)
 |[],_,_,_=>⟨rfl,fun _ _=>rfl,fun _=>rfl⟩
 |(o,c)::l,i,regs,own=>by
  obtain⟨h1,h2,h3⟩:=Za1 l (i+1) (putA regs o.dst c.r) (setE own c.eff)
  rw[Qyh] at h1 h2
  refine⟨h1,fun t ht=>?_,fun n=>?_⟩
  ·show(runL l _ _).2.1.getD t .any=_
   rw[h2 t ht,Q5c _ _ _ _ ht,valS]
   simp
  show(runL l _ _).2.2.getD n .unused=_
  rw[h3 n,Qt6,Qo9]
  simp
end
section
section
variable {X : Nat -> Nat -> Prop} {φ0 : Nat -> FSlot} {w0 : World}
structure RInv (X:Nat->Nat->Prop) (φ0:Nat->FSlot) (w0:World) (l:List (Oper×Rec)) (regs:List AV) (own:List Slot) (S:Nat->Bool) (φ:Nat->FSlot) (a:Act) (w:World):Prop where
 low:∀n b,(φ0 n).lies b->b<w0.heap.size
 defers:Marks φ w0 w a.defers
 size:a.tmps.size=regs.length
 regs:∀t,t<regs.length->RelV X φ w (valS l 0 S (regs.getD t .any) t) (a.tmps.getD t undef)
 slot:∀n,SlotOK X φ w n (Qo9 l 0 S (own.getD n .unused) n)
 distinct:Qdu φ
 hid:∀b off,X b off->b<w.heap.size
 evo:Evo X φ0 w0 φ w
def Q80 {o o':Oper}{c c':Rec}{t:Tmp}(h:o'.dst=some t) (ht:t∈c.slots):Qrf o' c' o c=true:=by
 simp[Qrf,h,ht]
def Q8z {o o':Oper}{c c':Rec}{t:Tmp}(h:o'.dst=some t) (ht:t∈c.slots):Qrf o c o' c'=true:=by
 simp[Qrf,h,ht]
def Zjo {o o':Oper}{c c':Rec}{t:Tmp}(h:o.dst=some t) (h':o'.dst=some t):Qrf o c o' c'=true:=by
 simp[Qrf,h,h']
def Zke {l:List (Nat×Slot)}{k:List (Nat×Slot)}{n:Nat}(h:n∈l.map (·.1)) (h':n∈k.map (·.1)):(l.any fun p=>k.any fun q=>p.1==q.1)=true:=by
 obtain⟨p,hp,e⟩:=Xba.1 h
 obtain⟨q,hq,e'⟩:=Xba.1 h'
 exact Xe1.2 ⟨p,hp,Xe1.2 ⟨q,hq,by simp[e,e']⟩⟩
def Zdo {o o':Oper}{c c':Rec}{n:Nat}(h:n∈c'.eff.map (·.1)) (h':n∈c.bl.map (·.1)):Qrf o' c' o c=true:=by
 simp only[Qrf,Zke h h',Bool.or_true,Bool.true_or]
def Q1b {o o':Oper}{c c':Rec}{n:Nat}(h:n∈c'.eff.map (·.1)) (h':n∈c.bl.map (·.1)):Qrf o c o' c'=true:=by
 simp only[Qrf,Zke h h',Bool.or_true]
def Fit (l:List (Oper×Rec)) (S:Nat->Bool) (i:Nat) (o:Oper) (c:Rec):Prop:=
 S i=false/\∀(j:Nat) (o':Oper) (c':Rec),l[j]? = some (o',c')->(j<i->Qrf o' c' o c=true->S j=true)/\(i<j->Qrf o c o' c'=true->S j=false)
def Fit.read {l:List (Oper×Rec)}{S:Nat->Bool}{i:Nat}{o:Oper}{c:Rec}(h:Fit l S i o c) {t:Tmp}(ht:t∈c.slots) (v:AV):valS l 0 S v t=valS l 0 (fun j=>decide (j<i)) v t:=by
 refine Qr8 l 0 v fun j p hj=>?_
 obtain⟨o',c'⟩:=p
 (try simp only[Xar])
 by_cases hd:o'.dst=some t
 ·simp only[hd,Xb8,Xhh]
  rcases Xc5 j i with hlt |rfl |hgt
  ·rw[(h.2 j o' c' hj).1 hlt (Q80 hd ht)];simp[hlt]
  ·rw[h.1];simp
  rw[(h.2 j o' c' hj).2 hgt (Q8z hd ht)];exact(Xah (by omega)).symm
 have e:(o'.dst==some t)=false:=by simpa using hd
 simp only[e,Bool.and_false]
def Fit.meet {l:List (Oper×Rec)}{S:Nat->Bool}{i:Nat}{o:Oper}{c:Rec}(h:Fit l S i o c) {n:Nat}(hn:n∈c.bl.map (·.1)) (s:Slot):Qo9 l 0 S s n=Qo9 l 0 (fun j=>decide (j<i)) s n:=by
 refine Qqt l 0 s fun j p hj he=>?_
 obtain⟨o',c'⟩:=p
 (try simp only[Xar])
 rcases Xc5 j i with hlt |rfl |hgt
 ·rw[(h.2 j o' c' hj).1 hlt (Zdo he hn)];simp[hlt]
 ·rw[h.1];simp
 rw[(h.2 j o' c' hj).2 hgt (Q1b he hn)];exact(Xah (by omega)).symm
def Qg2 (S:Nat->Bool) (i:Nat):Nat->Bool:=fun j=>S j||j==i
variable {ex : Option Nat} {P : Program} {ops : Array Oper} {l : List (Oper × Rec)} {regs regs' : List AV} {own own' : List Slot}
def SImp (s s':Slot):Prop:=∀(X:Nat->Nat->Prop) (φ:Nat->FSlot) (w:World) (n:Nat),SlotOK X φ w n s->SlotOK X φ w n s'
def StepAt (P:Program) (l:List (Oper×Rec)) (own:List Slot) (o:Oper) (c:Rec):Prop:=∃sf:List (Nat×Slot),Qd0 P o c.rd (c.bl++sf) c.r c.eff/\∀p∈sf,∀S,SImp (Qo9 l 0 S (own.getD p.1 .unused) p.1) p.2
def StepAt.hard {P:Program}{l:List (Oper×Rec)}{own:List Slot}{o:Oper}{c:Rec}(h:Qd0 P o c.rd c.bl c.r c.eff):StepAt P l own o c:=⟨[],by rw[Xbn];exact h,by simp⟩
structure Facts (ex:Option Nat) (P:Program) (ops:Array Oper) (l:List (Oper×Rec)) (regs:List AV) (own:List Slot) (regs':List AV) (own':List Slot):Prop where
 hops:ops.toList=l.map (·.1)
 steps:∀(i:Nat) (o:Oper) (c:Rec),l[i]? = some (o,c)->c.skip=false->ex≠some i->StepAt P l own o c
 met:runL l regs own=(l.map (fun p=>(p.2.rd.map (·.2),p.2.bl.map (·.2))),regs',own')
 look:Zbg ops l regs.length=true
def Facts.get (f:Facts ex P ops l regs own regs' own') {i:Nat}{o:Oper}(h:ops[i]? = some o):∃c,l[i]? = some (o,c):=by
 have h1:ops.toList[i]? = some o:=by simpa using h
 rw[f.hops,Xaw] at h1
 cases hl:l[i]? with
 |none=>rw[hl] at h1;cases h1
 |some p=>rw[hl] at h1;obtain⟨o',c⟩:=p;simp at h1;subst h1;exact⟨c,rfl⟩
def Facts.at (f:Facts ex P ops l regs own regs' own') {i:Nat}{o:Oper}{c:Rec}(h:l[i]? = some (o,c)):ops[i]? = some o:=by
 have h1:ops.toList[i]? = some o:=by rw[f.hops,Xaw,h];rfl
 simpa using h1
def Qvm {α β:Type}{f g:α->β}:∀{l:List α},l.map f=l.map g->∀x∈l,f x=g x
 |[],_,_,hx=>by cases hx
 |y::l,h,x,hx=>by
  simp only[Xax,Xfy] at h
  rcases Xa7.1 hx with rfl |hx
  ·exact h.1
  exact Qvm h.2 x hx
def Facts.rd (f:Facts ex P ops l regs own regs' own') {i:Nat}{o:Oper}{c:Rec}(h:l[i]? = some (o,c)):∀p∈c.rd,p.2=match p.1 with |.tmp t=>(if t<regs.length then valS l 0 (fun j=>decide (j<i)) (regs.getD t .any) t else .any) |x=>opd regs x:=by
 have h1:=Q2s l 0 regs own i o c h
 rw[f.met] at h1
 simp only[Xaw,h,Xca,Xdv,Xef,Xar] at h1
 exact Qvm h1.1
def Facts.bl (f:Facts ex P ops l regs own regs' own') {i:Nat}{o:Oper}{c:Rec}(h:l[i]? = some (o,c)):∀p∈c.bl,p.2=Qo9 l 0 (fun j=>decide (j<i)) (own.getD p.1 .unused) p.1:=by
 have h1:=Q2s l 0 regs own i o c h
 rw[f.met] at h1
 simp only[Xaw,h,Xca,Xdv,Xef,Xar] at h1
 exact Qvm h1.2
def Zhz {c:Rec}{t:Tmp}{v:AV}(h:(.tmp t,v)∈c.rd):t∈c.slots:=List.mem_filterMap.2 ⟨_,h,rfl⟩
def RInv.val {S:Nat->Bool}{φ:Nat->FSlot}{a:Act}{w:World}(h:RInv X φ0 w0 l regs own S φ a w) (f:Facts ex P ops l regs own regs' own') {i:Nat}{o:Oper}{c:Rec}(hi:l[i]? = some (o,c)) (fit:Fit l S i o c):∀p∈c.rd,RelV X φ w p.2 (a.eval p.1):=by
 intro p hp
 rw[f.rd hi p hp]
 obtain⟨x,v⟩:=p
 cases x with
 |tmp t=>
  dsimp only[Act.eval]
  by_cases ht:t<regs.length
  ·rw[Xaz ht,<-fit.read (Zhz hp)]
   exact h.regs t ht
  rw[Xat ht];exact .any _
 |const v=>exact .lit v
 |global g=>exact .lit _
 |func f=>exact .fn _ _ _ _ _ rfl rfl (by simp) (by simp)
def RInv.blocks {S:Nat->Bool}{φ:Nat->FSlot}{a:Act}{w:World}(h:RInv X φ0 w0 l regs own S φ a w) (f:Facts ex P ops l regs own regs' own') {i:Nat}{o:Oper}{c:Rec}(hi:l[i]? = some (o,c)) (fit:Fit l S i o c):∀p∈c.bl,SlotOK X φ w p.1 p.2:=by
 intro p hp
 rw[f.bl hi p hp,<-fit.meet (Xba.2 ⟨p,hp,rfl⟩)]
 exact h.slot p.1
def RInv.lt {S:Nat->Bool}{φ:Nat->FSlot}{a:Act}{w:World}(h:RInv X φ0 w0 l regs own S φ a w):∀n b,(φ n).lies b->b<w.heap.size:=fun n _ hb=>(h.slot n).lt hb
def Qw6 (a:Act) (d:Option Tmp) (v:Value) (t:Tmp) (ht:t<a.tmps.size):(a.put d v).tmps.getD t undef=if d==some t then v else a.tmps.getD t undef:=by
 cases d with
 |none=>rfl
 |some e=>
  simp only[Act.put,Xaf,Xdp]
  by_cases h:e=t
  ·subst h;simp[ht]
  simp[h]
def Q2x (a:Act) (d:Option Tmp) (v:Value):(a.put d v).tmps.size=a.tmps.size:=by cases d<;>simp[Act.put]
def Qvc (a:Act) (d:Option Tmp) (v:Value):(a.put d v).defers=a.defers:=by cases d<;>rfl
def Q0q {S:Nat->Bool}{i:Nat}{o:Oper}{c:Rec}(hi:l[i]? = some (o,c)) (fit:Fit l S i o c) (v:AV) (t:Tmp):valS l 0 (Qg2 S i) v t=if o.dst==some t then c.r else valS l 0 S v t:=by
 by_cases hd:o.dst=some t
 ·simp only[hd,Xb8,Xe4]
  refine Q4n l 0 i v o c hi (by simp[Qg2]) hd fun j p hj hp=>?_
  obtain⟨o',c'⟩:=p
  simp only[Xar,Qg2]
  by_cases hd':o'.dst=some t
  ·rw[(fit.2 j o' c' hp).2 hj (Zjo hd hd')]
   have e:(j==i)=false:=by simp;omega
   simp[e]
  simp[hd']
 have e:(o.dst==some t)=false:=by simpa using hd
 rw[e]
 simp only[Xc8,Xff]
 refine Qr8 l 0 v fun j p hj=>?_
 simp only[Xar,Qg2]
 by_cases hji:j=i
 ·subst hji
  rw[hi] at hj
  cases hj
  simp[e]
 have e':(j==i)=false:=by simpa using hji
 simp[e']
def Q7u {S:Nat->Bool}{i:Nat}{o:Oper}{c:Rec}(hi:l[i]? = some (o,c)) (fit:Fit l S i o c) (heff:∀n,n∈c.eff.map (·.1)->n∈c.bl.map (·.1)) (s:Slot) (n:Nat) :
  Qo9 l 0 (Qg2 S i) s n=Qq1 n c.eff (Qo9 l 0 S s n):=by
 by_cases hm:n∈c.eff.map (·.1)
 ·refine Q0r l 0 i s _ o c hi (by simp[Qg2]) hm fun j p hj hp he=>?_
  obtain⟨o',c'⟩:=p
  simp only[Xar,Qg2]
  rw[(fit.2 j o' c' hp).2 hj (Q1b he (heff n hm))]
  have e:(j==i)=false:=by simp;omega
  simp[e]
 rw[Qm0 hm]
 refine Qqt l 0 s fun j p hj he=>?_
 simp only[Xar,Qg2]
 by_cases hji:j=i
 ·subst hji
  rw[hi] at hj
  cases hj
  exact absurd he hm
 have e':(j==i)=false:=by simpa using hji
 simp[e']
def Qxz {φ:Nat->FSlot}{w:World}{a:Act}{j:Nat}{d:Tmp}{v:Value}(g1:(ops[j]?).bind (·.dst)=some d) (h:RelV X φ w (.lit v) (a.eval (.tmp d))):yielded ops a.tmps j=Qzi v:=by
 have hv:a.eval (.tmp d)=v:=by cases h;rfl
 simp only[yielded,g1,Xaa]
 simp only[Act.eval,Xaf] at hv
 cases ht:a.tmps[d]? with
 |none=>rw[ht] at hv;subst hv;rfl
 |some u=>rw[ht] at hv;simp at hv;subst hv;cases u<;>rfl
def RInv.next {S:Nat->Bool}{φ:Nat->FSlot}{a:Act}{w:World}(h:RInv X φ0 w0 l regs own S φ a w) (f:Facts ex P ops l regs own regs' own') {i:Nat}{o:Oper}{c:Rec}(hi:l[i]? = some (o,c)) (fit:Fit l S i o c)
  {v:Value}{φ':Nat->FSlot}{w':World}(hr:RelV X φ' w' c.r v) (he:∀p∈c.eff,SlotOK X φ' w' p.1 p.2) (hd:Qdu φ') (hn:∀n,n∉c.eff.map (·.1)->φ' n=φ n)
  (hb:∀b,b<w.heap.size->(∀p∈c.eff,¬(φ p.1).lies b)->w'.heap[b]? = w.heap[b]?) (hev:Evo X φ w φ' w'):RInv X φ0 w0 l regs own (Qg2 S i) φ' (a.put o.dst v) w':=by
 have hlook:=Xa6.1 f.look (o,c) (Xac hi)
 simp only[Xaq] at hlook
 obtain⟨⟨hg,hdst⟩,heff0⟩:=hlook
 have heff:∀n,n∈c.eff.map (·.1)->n∈c.bl.map (·.1):=fun n hn=>by
  obtain⟨p,hp,rfl⟩:=Xba.1 hn
  have:=Xa6.1 heff0 p hp
  obtain⟨q,hq,e⟩:=Xe1.1 this
  exact Xba.2 ⟨q,hq,by simpa using(Xbm.1 e).symm⟩
 refine⟨h.low,Qvc a o.dst v▸h.defers.evo hev,(Q2x _ _ _).trans h.size,fun t ht=>?_,fun n=>?_,hd,fun b off hx=>Xbc (h.hid b off hx) hev.size,h.evo.trans hev⟩
 ·rw[Q0q hi fit,Qw6 _ _ _ _ (by rw[h.size];exact ht)]
  split
  ·exact hr
  exact(h.regs t ht).evo hev
 rw[Q7u hi fit heff]
 by_cases hm:n∈c.eff.map (·.1)
 ·exact he _ (Qzf hm)
 rw[Qm0 hm]
 refine(h.slot n).evo hev (hn n hm) fun b hb'=>hb b (h.lt n b hb') fun p hp hp'=>?_
 have e:=h.distinct n p.1 b hb' hp'
 exact hm (e▸Xba.2 ⟨p,hp,rfl⟩)
def RInv.wants {S:Nat->Bool}{φ:Nat->FSlot}{a:Act}{w:World}(h:RInv X φ0 w0 l regs own S φ a w) (f:Facts ex P ops l regs own regs' own') {i:Nat}{o:Oper}{c:Rec}(hi:l[i]? = some (o,c)) (fit:Fit l S i o c) (hs':c.skip=false):Region.wanted o (yielded ops a.tmps)=true:=by
 have hlook:=Xa6.1 f.look (o,c) (Xac hi)
 simp only[Xaq] at hlook
 obtain⟨⟨hg,hdst⟩,heff0⟩:=hlook
 have hval:=h.val f hi fit
 unfold Q29 at hg
 unfold Region.wanted
 cases hgu:o.guard with
 |none=>rfl
 |some g=>
  obtain⟨j,want⟩:=g
  rw[hgu] at hg
  dsimp only at hg ⊢
  split at hg
  case h_2=>cases hg
  case h_1 d v rest hrd=>
   simp only[hs',Xaq,Xd9,Bool.true_or,and_true,Xbm] at hg
   obtain⟨g1,g2⟩:=hg
   rw[Qxz g1 (hval (.tmp d,.lit v) (by rw[hrd];simp))]
   cases hb:Qzi v with
   |none=>rw[hb] at g2;simp at g2
   |some b=>rw[hb] at g2;cases b<;>cases want<;>first |rfl |(simp at g2)
def RInv.step' {S:Nat->Bool}{φ:Nat->FSlot}{a:Act}{w:World}(h:RInv X φ0 w0 l regs own S φ a w) (f:Facts ex P ops l regs own regs' own') {i:Nat}{o:Oper}{c:Rec}(hi:l[i]? = some (o,c)) (fit:Fit l S i o c) (hx:ex≠some i)
  {K:Act->World->Prop}{Q:Exit->Act->World->Prop}{ro:Option Nat}(k:∀v φ' w',RelV X φ' w' c.r v->(∀p∈c.eff,SlotOK X φ' w' p.1 p.2)->Qdu φ'->(∀n,n∉c.eff.map (·.1)->φ' n=φ n)->(∀b,b<w.heap.size->(∀p∈c.eff,¬(φ p.1).lies b)->w'.heap[b]? = w.heap[b]?)->Evo X φ w φ' w'->K (a.put o.dst v) w'):wpOpIn (FR ro) 0 P ops Q i K a w:=by
 have hlook:=Xa6.1 f.look (o,c) (Xac hi)
 simp only[Xaq] at hlook
 obtain⟨⟨hg,hdst⟩,heff0⟩:=hlook
 have heff:∀n,n∈c.eff.map (·.1)->n∈c.bl.map (·.1):=fun n hn=>by
  obtain⟨p,hp,rfl⟩:=Xba.1 hn
  have:=Xa6.1 heff0 p hp
  obtain⟨q,hq,e⟩:=Xe1.1 this
  exact Xba.2 ⟨q,hq,by simpa using(Xbm.1 e).symm⟩
 have hval:=h.val f hi fit
 unfold wpOpIn
 rw[f.at hi]
 dsimp only
 by_cases hs:c.skip=true
 ·-- left out
  have hw:Region.wanted o (yielded ops a.tmps)=false/\c.r.isUndef=true/\c.eff=[]:=by
   unfold Q29 at hg
   unfold Region.wanted
   cases hgu:o.guard with
   |none=>rw[hgu] at hg;simp[hs] at hg
   |some g=>
    obtain⟨j,want⟩:=g
    rw[hgu] at hg
    dsimp only at hg ⊢
    split at hg
    case h_2=>cases hg
    case h_1 d v rest hrd=>
     simp only[hs,Xaq,Xb4,Xgn,Xhz,Xbm] at hg
     obtain⟨⟨g1,g2⟩,g3,g4⟩:=hg
     refine⟨?_,g3,g4⟩
     rw[Qxz g1 (hval (.tmp d,.lit v) (by rw[hrd];simp))]
     cases hb:Qzi v with
     |none=>simp
     |some b=>rw[hb] at g2;cases b<;>cases want<;>first |rfl |(simp at g2)
  rw[Xat (by simp[hw.1])]
  have hu:c.r=.lit undef:=by
   have h1:=hw.2.1
   unfold AV.isUndef at h1
   split at h1
   ·rename_i vs hr
    rw[hr]
    have:vs = #[]:=by simpa using h1
    rw[this];rfl
   cases h1
  exact⟨fun _ _=>trivial,k undef φ w (by rw[hu];exact .lit _) (by rw[hw.2.2];simp) h.distinct (fun _ _=>rfl) (fun _ _ _=>rfl) Evo.refl⟩
 have hs':c.skip=false:=by simpa using hs
 have hw:Region.wanted o (yielded ops a.tmps)=true:=h.wants f hi fit hs'
 rw[Xaz hw]
 obtain⟨sf,hst,hsf⟩:=f.steps i o c hi hs' hx
 refine hst X φ a w hval (fun p hp=>?_) h.distinct h.hid h.lt K Q k ro
 rcases Xby.1 hp with hp |hp
 ·exact h.blocks f hi fit p hp
 exact hsf p hp S X φ w p.1 (h.slot p.1)
def RInv.step {S:Nat->Bool}{φ:Nat->FSlot}{a:Act}{w:World}(h:RInv X φ0 w0 l regs own S φ a w) (f:Facts ex P ops l regs own regs' own') {i:Nat}{o:Oper}{c:Rec}(hi:l[i]? = some (o,c)) (fit:Fit l S i o c) (hx:ex≠some i)
  {K:Act->World->Prop}{Q:Exit->Act->World->Prop}{ro:Option Nat}(k:∀φ' a' w',RInv X φ0 w0 l regs own (Qg2 S i) φ' a' w'->K a' w'):wpOpIn (FR ro) 0 P ops Q i K a w:=
 h.step' f hi fit hx fun _ φ' w' hr he hd hn hb hev=>k φ' _ w' (h.next f hi fit hr he hd hn hb hev)
def Q1m {acc:List Nat}{k:Nat}:∀(es:List Edge) (s:Nat),(es.foldl (fun s e=>if Region.binds .any e then s |||(2 ^ e.on |||acc.getD e.on 0) else s) s).testBit k=true->s.testBit k=true\/∃e∈es,Region.binds .any e=true/\(k=e.on\/(acc.getD e.on 0).testBit k=true)
 |[],s,h=>.inl h
 |e::es,s,h=>by
  rw[Xec] at h
  rcases Q1m es _ h with h1 |⟨e',he',hb,hk⟩
  ·by_cases hb:Region.binds .any e=true
   ·rw[Xaz hb,Nat.testBit_or,Nat.testBit_or,Nat.testBit_two_pow] at h1
    simp only[Xf1,Xbw] at h1
    rcases h1 with h1 |h1 |h1
    ·exact .inl h1
    ·exact .inr ⟨e,by simp,hb,.inl h1.symm⟩
    exact .inr ⟨e,by simp,hb,.inr h1⟩
   rw[Xat hb] at h1
   exact .inl h1
  exact .inr ⟨e',Xal _ he',hb,hk⟩
def Qq5 (S:Nat->Bool) (o:Oper):Prop:=∀e∈o.after.toList,Region.binds .any e=true->S e.on=true
def Qh8 {L:List (Oper×Rec)}{S:Nat->Bool}(closed:∀(i:Nat) (o:Oper) (c:Rec),L[i]? = some (o,c)->S i=true->Qq5 S o):∀(l pre:List (Oper×Rec)) (acc:List Nat),L=pre++l->acc.length=pre.length ->
  (∀(i:Nat) (o:Oper) (c:Rec),i<pre.length->L[i]? = some (o,c)->Qq5 S o->∀k,(acc.getD i 0).testBit k=true->S k=true)->Qjg l pre acc=true ->
  ∀(i:Nat) (o:Oper) (c:Rec),pre.length<=i->L[i]? = some (o,c)->(∀e∈o.after.toList,Region.binds .any e=true->e.on<i)/\(Qq5 S o->∀(j:Nat) (o':Oper) (c':Rec),j<i->L[j]? = some (o',c')->Qrf o' c' o c=true->S j=true)
 |[],pre,acc,hL,_,_,_,i,o,c,hi,hget=>by
  subst hL
  rw[Xbn,Xbb hi] at hget
  cases hget
 |(o1,c1)::l,pre,acc,hL,hlen,good,hok,i,o,c,hi,hget=>by
  simp only[Qjg,Xaq] at hok
  obtain⟨⟨h1,h2⟩,h3⟩:=hok
  have hpre:L[pre.length]? = some (o1,c1):=by rw[hL];simp
  have anc:Qq5 S o1->∀k,(Zn8 acc o1).testBit k=true->S k=true:=fun hp k hk=>by
   rcases Q1m o1.after.toList 0 hk with h0 |⟨e,he,hb,hke⟩
   ·simp at h0
   have hse:=hp e he hb
   rcases hke with rfl |hke
   ·exact hse
   have hlt:e.on<pre.length:=by
    have:=Xdj.1 h1 e (by simpa using he)
    simpa [hb] using this
   obtain⟨p,hp'⟩:∃p,L[e.on]? = some p:=⟨_,Xab (by rw[hL];simp;omega)⟩
   obtain⟨o2,c2⟩:=p
   exact good e.on o2 c2 hlt hp' (closed _ _ _ hp' hse) k hke
  by_cases hieq:i=pre.length
  ·subst hieq
   rw[hpre] at hget
   cases hget
   refine⟨fun e he hb=>?_,fun hp j o' c' hj hj' hcl=>?_⟩
   ·have:=Xdj.1 h1 e (by simpa using he)
    simpa [hb] using this
   have hpj:pre[j]? = some (o',c'):=by
    rw[hL,Xas hj] at hj'
    exact hj'
   have:=Xa6.1 h2 j (by simpa using hj)
   rw[hpj] at this
   simp only[hcl,Xb4,Bool.or_false] at this
   exact anc hp j this
  refine Qh8 closed l (pre++[(o1,c1)]) (acc++[Zn8 acc o1]) (by rw[hL];simp) (by simp[hlen]) (fun i' o' c' hi' hget' hp k hk=>?_) h3 i o c (by simp;omega) hget
  by_cases hlt:i'<pre.length
  ·refine good i' o' c' hlt hget' hp k ?_
   rwa [Xaj,Xas (by omega),<-Xaj] at hk
  have e:i'=pre.length:=by simp at hi';omega
  subst e
  rw[hpre] at hget'
  cases hget'
  refine anc hp k ?_
  rwa [Xaj,<-hlen,List.getElem?_concat_length] at hk
def Quo {p p':Nat->Bool}:∀(l:List Nat),(∀x∈l,p' x=true->p x=true)->∀i∈l,p i=true->p' i=false->l.countP p'<l.countP p
 |[],_,_,hi,_,_=>by cases hi
 |y::l,h,i,hi,h1,h2=>by
  have hle:l.countP p'<=l.countP p:=List.countP_mono_left fun x hx hpx=>h x (Xal _ hx) hpx
  rw[List.countP_cons,List.countP_cons]
  rcases Xa7.1 hi with rfl |hi
  ·simp[h1,h2];omega
  have:=Quo l (fun x hx=>h x (Xal _ hx)) i hi h1 h2
  have h0:=h y (by simp)
  cases hy:p' y
  ·simp;omega
  simp[h0 hy];omega
def RInv.done {S:Nat->Bool}{φ:Nat->FSlot}{a:Act}{w:World}(h:RInv X φ0 w0 l regs own S φ a w) (f:Facts ex P ops l regs own regs' own') (hS:∀i,i<l.length->S i=true):Sim X φ0 w0 φ ⟨regs',own'⟩ a w:=by
 obtain⟨h1,h2,h3⟩:=Za1 l 0 regs own
 rw[f.met] at h1 h2 h3
 dsimp only at h1 h2 h3
 refine⟨h.low,h.defers,h.size.trans h1.symm,fun t v hv=>?_,⟨fun n=>?_,h.distinct,h.hid⟩,h.evo⟩
 ·dsimp only at hv
  have ht:t<regs.length:=by
   have:=(Xad.1 hv).1
   omega
  have h4:=h2 t ht
  rw[Xaj,hv,Xbd] at h4
  rw[h4,Qr8 l 0 _ (S':=S) fun j p hj=>by
   have:j<l.length:=(Xad.1 hj).1
   simp[hS j this]]
  exact h.regs t ht
 have h4:=h3 n
 show SlotOK X φ w n (own'.getD n .unused)
 rw[h4,Qqt l 0 _ (S':=S) fun j p hj _=>by
  have:j<l.length:=(Xad.1 hj).1
  simp[hS j this]]
 exact h.slot n
def RInv.start {φ:Nat->FSlot}{a:Act}{w:World}(h:Sim X φ0 w0 φ ⟨regs,own⟩ a w):RInv X φ0 w0 l regs own (fun _=>false) φ a w:=
 ⟨h.low,h.defers,h.size,fun t ht=>by
  rw[Qty l 0 _ fun j p _=>by simp]
  exact h.regs t _ (by simp[ht]),fun n=>by
  rw[Qr9 l 0 _ fun j p _ _=>rfl]
  exact h.env.slot n,h.env.distinct,h.env.hid,h.evo⟩
def Qqu (f:Facts ex P ops l regs own regs' own') {Q:Exit->Act->World->Prop}{ro:Option Nat}:∀(m i:Nat),i+m=l.length->(∀j,i<=j->ex≠some j)->∀(φ:Nat->FSlot) (a:Act) (w:World),RInv X φ0 w0 l regs own (fun j=>decide (j<i)) φ a w ->
  (∀φ' a' w',Sim X φ0 w0 φ' ⟨regs',own'⟩ a' w'->Q .normal a' w')->wpOpsIn (FR ro) 0 P ops Q (List.range' i m) a w
 |0,i,him,_,φ,a,w,h,k=>k φ a w (h.done f fun j hj=>by simp;omega)
 |m+1,i,him,hx,φ,a,w,h,k=>by
  rw[Xd1,Xfo]
  obtain⟨p,hp⟩:∃p,l[i]? = some p:=⟨_,Xab (by omega)⟩
  obtain⟨o,c⟩:=p
  refine h.step f hp ⟨by simp,fun j o' c' hj=>⟨fun hlt _=>by simpa using hlt,fun hgt _=>by simp;omega⟩⟩ (hx i (Xay _)) fun φ' a' w' h'=>Qqu f m (i+1) (by omega) (fun j hj=>hx j (by omega)) φ' a' w' ?_ k
  have e:Qg2 (fun j=>decide (j<i)) i=fun j=>decide (j<i+1):=by
   funext j
   simp only[Qg2]
   by_cases h1:j<i
   ·simp[h1];omega
   by_cases h2:j=i
   ·subst h2;simp
   have:¬j<i+1:=by omega
   simp[h1,h2,this]
  rwa [e] at h'
def Qrs (f:Facts ex P ops l regs own regs' own') (hord:Qjg l [] []=true) {Q:Exit->Act->World->Prop}{ro:Option Nat}(k:∀φ' a' w',Sim X φ0 w0 φ' ⟨regs',own'⟩ a' w'->Q .normal a' w'):∀(fuel:Nat) (listed:Array Bool),listed.size=ops.size->(List.range ops.size).countP (fun j=>!listed.getD j false)<=fuel ->
  (∀(i:Nat) (o:Oper) (c:Rec),l[i]? = some (o,c)->listed.getD i false=true->Qq5 (fun j=>listed.getD j false) o)->(∀j,ex=some j->listed.getD j false=true)->∀(φ:Nat->FSlot) (a:Act) (w:World),RInv X φ0 w0 l regs own (fun j=>listed.getD j false) φ a w->wpAnyIn (FR ro) 0 P .any ops Q fuel listed a w:=by
 have hlen:l.length=ops.size:=by
  have:=Xek List.length f.hops
  simpa using this.symm
 have fin:∀(listed:Array Bool),listed.size=ops.size->(∀(i:Nat) (o:Oper) (c:Rec),l[i]? = some (o,c)->listed.getD i false=true->Qq5 (fun j=>listed.getD j false) o)->Region.ready .any ops listed=[]->∀i,i<l.length->listed.getD i false=true:=by
  intro listed hsz closed hr i
  induction i using Nat.strongRecOn with
  |_ i ih=>
   intro hi
   cases hli:listed.getD i false with
   |true=>rfl
   |false=>
    exfalso
    obtain⟨p,hp⟩:∃p,l[i]? = some p:=⟨_,Xab hi⟩
    obtain⟨o,c⟩:=p
    have h1:=(Qh8 closed l [] [] rfl rfl (fun _ _ _ h=>by simp at h) hord i o c (by simp) hp).1
    have hmem:i∈Region.ready .any ops listed:=by
     unfold Region.ready
     rw[Xen]
     refine⟨by simp;omega,?_⟩
     rw[f.at hp]
     have hl':listed.getD i true=false:=by
      simp only[Xaf] at hli ⊢
      rw[Xa1 (by omega)] at hli ⊢
      simpa using hli
     simp only[hl',Xd9,Xcc,Xca,Xbd]
     refine Xdj.2 fun e he=>?_
     cases hb:Region.binds .any e with
     |false=>simp
     |true=>
      have hlt:=h1 e (by simpa using he) hb
      simpa using ih e.on hlt (by omega)
    rw[hr] at hmem
    cases hmem
 intro fuel
 induction fuel with
 |zero=>
  intro listed hsz hc closed hex φ a w h
  have hall:∀i,i<l.length->listed.getD i false=true:=fun i hi=>by
   have:=Xg5.1 (Nat.le_zero.1 hc) i (by simp;omega)
   simpa using this
  refine⟨?_,k φ a w (h.done f hall)⟩
  unfold Region.ready
  rw[List.filter_eq_nil_iff]
  intro i hi
  have h1:=hall i (by simp at hi;omega)
  have hl':listed.getD i true=true:=by
   simp only[Xd7] at hi
   simp only[Xaf] at h1 ⊢
   rw[Xa1 (by omega)] at h1 ⊢
   simpa using h1
  rw[hl'];simp
 |succ fuel ih=>
  intro listed hsz hc closed hex φ a w h
  refine⟨fun hr=>k φ a w (h.done f (fin listed hsz closed hr)),fun i hi=>?_⟩
  unfold Region.ready at hi
  rw[Xen] at hi
  obtain⟨hir,hi2⟩:=hi
  rw[Xd7] at hir
  simp only[Xaq,Xdw] at hi2
  obtain⟨hi2,hi3⟩:=hi2
  have hli:listed.getD i false=false:=by
   simp only[Xaf] at hi2 ⊢
   rw[Xa1 (by omega)] at hi2 ⊢
   simpa using hi2
  obtain⟨c,hp⟩:=f.get (Xa1 hir)
  rw[Xa1 hir] at hi3
  simp only[Xca,Xbd] at hi3
  generalize ops[i]=o at hp hi3
  have hpreds:Qq5 (fun j=>listed.getD j false) o:=fun e he hb=>by
   have:=Xdj.1 hi3 e (by simpa using he)
   simpa [hb] using this
  have fit:Fit l (fun j=>listed.getD j false) i o c:=⟨hli,fun j o' c' hj=>⟨fun hlt hcl=>(Qh8 closed l [] [] rfl rfl (fun _ _ _ h=>by simp at h) hord i o c (by simp) hp).2 hpreds j o' c' hlt hj hcl,fun hgt hcl=>by
   cases hS:listed.getD j false with
   |false=>exact hS
   |true=>
    have:=(Qh8 closed l [] [] rfl rfl (fun _ _ _ h=>by simp at h) hord j o' c' (by simp) hj).2 (closed j o' c' hj hS) i o c hgt hp hcl
    rw[hli] at this
    cases this⟩⟩
  have eS:(fun j=>(listed.setIfInBounds i true).getD j false)=Qg2 (fun j=>listed.getD j false) i:=by
   funext j
   simp only[Qg2,Xaf,Xdp]
   by_cases e:i=j
   ·subst e;simp[hsz,hir]
   have:(j==i)=false:=by simp;omega
   simp[e,this]
  refine h.step f hp fit (fun e=>by rw[hex i e] at hli;cases hli) fun φ' a' w' h'=>ih _ (by simpa using hsz) ?_ ?_ (fun j e=>by rw[show(listed.setIfInBounds i true).getD j false=Qg2 (fun j=>listed.getD j false) i j from Xee eS j];simp only[Qg2,hex j e,Bool.true_or]) φ' a' w' (by rw[eS];exact h')
  ·have hlt:=Quo (p:=fun j=>!listed.getD j false) (p':=fun j=>!(listed.setIfInBounds i true).getD j false) (List.range ops.size) (fun x _ hx=>by
    rw[show(listed.setIfInBounds i true).getD x false=Qg2 (fun j=>listed.getD j false) i x from Xee eS x] at hx
    simp only[Qg2,Xh1,Xaq] at hx
    exact hx.1) i (by simpa using hir) (by simpa using hli) (by
    rw[show(listed.setIfInBounds i true).getD i false=Qg2 (fun j=>listed.getD j false) i i from Xee eS i]
    simp[Qg2])
   omega
  intro j o' c' hj hS e he hb
  have e1:(listed.setIfInBounds i true).getD j false=Qg2 (fun j=>listed.getD j false) i j:=Xee eS j
  have e2:(listed.setIfInBounds i true).getD e.on false=Qg2 (fun j=>listed.getD j false) i e.on:=Xee eS e.on
  show(listed.setIfInBounds i true).getD e.on false=true
  rw[e1] at hS
  rw[e2]
  simp only[Qg2,Xf1,Xbm] at hS ⊢
  rcases hS with hS |rfl
  ·exact .inl (closed j o' c' hj hS e he hb)
  rw[hp] at hj
  cases hj
  exact .inl (hpreds e he hb)
end
end
section
section
variable (P : Program) (X : Nat -> Nat -> Prop) (φ0 : Nat -> FSlot) (w0 : World)
def conc (Q:Exit->AS->Prop):Exit->Act->World->Prop:=fun e a w=>∃φ s,Sim X φ0 w0 φ s a w/\Q e s
def AWp (ro:Option Nat) (c:Code) (Q:Exit->AS->Prop) (s:AS):Prop:=∀φ a w,Sim X φ0 w0 φ s a w->c.wpIn (FR ro) 0 P (conc X φ0 w0 Q) a w
def Qx5 (next:AS->Prop) (Q:Exit->AS->Prop):Exit->AS->Prop
 |.normal,s=>next s
 |e,s=>Q e s
def Qwl (id:Nat) (Q:Exit->AS->Prop):Exit->AS->Prop
 |.exit id',s=>if id'=id then Q .normal s else Q (.exit id') s
 |e,s=>Q e s
def Qti (ro:Option Nat) (c:Code) (Q:Exit->AS->Prop) (n:Nat) (s:AS):Prop:=∀φ a w,Sim X φ0 w0 φ s a w->Code.roundsIn (FR ro) 0 P c (conc X φ0 w0 Q) n a w
end
section
variable {P : Program} {X : Nat -> Nat -> Prop} {φ0 : Nat -> FSlot} {w0 : World} {ro : Option Nat} {Q : Exit -> AS -> Prop} {s : AS}
def Qah (h:Q .normal s):AWp P X φ0 w0 ro .skip Q s:=fun φ _ _ hs=>wpIn_skip ⟨φ,s,hs,h⟩
def Qax {id:Nat}(h:Q (.exit id) s):AWp P X φ0 w0 ro (.exit id) Q s:=fun φ _ _ hs=>wpIn_exit ⟨φ,s,hs,h⟩
def Qad (h:Q .ret s):AWp P X φ0 w0 ro .ret Q s:=fun φ _ _ hs=>wpIn_ret ⟨φ,s,hs,h⟩
def Zj4 {l:Nat}(h:Q .normal s):AWp P X φ0 w0 ro (.label l) Q s:=fun φ _ _ hs=>wpIn_label ⟨φ,s,hs,h⟩
def Qzl {x y:Code}(h:AWp P X φ0 w0 ro x (Qx5 (AWp P X φ0 w0 ro y Q) Q) s):AWp P X φ0 w0 ro (.seq x y) Q s:=fun φ a w hs=>
 wpIn_seq (Xej (h φ a w hs) fun e a w ⟨φ',s',hs',hq⟩=>by
  cases e with
  |normal=>exact hq φ' a w hs'
  |_=>exact⟨φ',s',hs',hq⟩)
def Zb3 {c:Operand}{x y:Code}{t:Bool}(hc:opd s.regs c=.lit (.bool t)) (h:AWp P X φ0 w0 ro (if t then x else y) Q s):AWp P X φ0 w0 ro (.cond c x y) Q s:=fun φ a w hs=>by
 have hv:=hs.opd c
 rw[hc] at hv
 cases hv':a.eval c with
 |bool b=>rw[hv'] at hv;cases hv;exact wpIn_cond hv' (h φ a w hs)
 |_=>rw[hv'] at hv;cases hv
def Zb1 {c:Operand}{x y:Code}(hc:opd s.regs c=.lit (.bool true)) (h:AWp P X φ0 w0 ro x Q s):AWp P X φ0 w0 ro (.cond c x y) Q s:=Zb3 hc h
def Q6l {c:Operand}{x y:Code}(hc:opd s.regs c=.lit (.bool false)) (h:AWp P X φ0 w0 ro y Q s):AWp P X φ0 w0 ro (.cond c x y) Q s:=Zb3 hc h
def Qaf {id:Nat}{c:Code}(h:AWp P X φ0 w0 ro c (Qwl id Q) s):AWp P X φ0 w0 ro (.block id c) Q s:=fun φ a w hs=>
 wpIn_block (Xej (h φ a w hs) fun e a w ⟨φ',s',hs',hq⟩=>by
  cases e with
  |exit id'=>
   simp only[Exit.inBlock,Qwl] at hq ⊢
   split
   ·rw[Xaz (by assumption)] at hq;exact⟨φ',s',hs',hq⟩
   rw[Xat (by assumption)] at hq;exact⟨φ',s',hs',hq⟩
  |_=>exact⟨φ',s',hs',hq⟩)
def Q3u {c:Code}(n:Nat) (h:Qti P X φ0 w0 ro c Q n s):AWp P X φ0 w0 ro (.loop c) Q s:=fun φ a w hs=>wpIn_loop_rounds n (h φ a w hs)
def Qzy {c:Code}{n:Nat}(h:AWp P X φ0 w0 ro c (Qx5 (Qti P X φ0 w0 ro c Q n) Q) s):Qti P X φ0 w0 ro c Q (n+1) s:=fun φ a w hs=>
 Xej (h φ a w hs) fun e a w ⟨φ',s',hs',hq⟩=>by
  cases e with
  |normal=>exact hq φ' a w hs'
  |_=>exact⟨φ',s',hs',hq⟩
def Qbf {τ:Type}{c:Code}(F:Nat->τ->Prop) (st:τ->AS) (base:∀x,¬F 0 x) (step:∀n,(∀x,F n x->Qti P X φ0 w0 ro c Q n (st x))->∀x,F (n+1) x->AWp P X φ0 w0 ro c (Qx5 (Qti P X φ0 w0 ro c Q n) Q) (st x)) (n:Nat) (x:τ) (h:F n x):AWp P X φ0 w0 ro (.loop c) Q (st x):=by
 refine Q3u n ?_
 induction n generalizing x with
 |zero=>exact absurd h (base x)
 |succ n ih=>exact Qzy (step n ih x h)
def Q1e {id:Nat}{ops:Array Oper}(l:List (Oper×Rec)) {regs':List AV}{own':List Slot}(f:Facts none P ops l s.regs s.own regs' own') (h:Q .normal ⟨regs',own'⟩):AWp P X φ0 w0 ro (.region id ops false) Q s:=fun φ a w hs=>by
 have hlen:l.length=ops.size:=by
  have:=Xek List.length f.hops
  simpa using this.symm
 refine Xh9 ?_
 have:=Qqu (ro:=ro) f ops.size 0 (by omega) (fun _ _ e=>by cases e) φ a w (by
  have:=RInv.start (l:=l) (regs:=s.regs) (own:=s.own) hs
  simpa using this) (Q:=conc X φ0 w0 Q) fun φ' a' w' hs'=>⟨φ',_,hs',h⟩
 rwa [<-Xfp] at this
def Sim.drawn {φ:Nat->FSlot}{a:Act}{w:World}(h:Sim X φ0 w0 φ s a w):Sim X φ0 w0 φ s a { w with drawn:=w.drawn+1 }:=by
 have e:Evo X φ w φ { w with drawn:=w.drawn+1 }:=⟨rfl,rfl,rfl,Xay _,fun _ _ _=>rfl,fun _ h=>.inl h,fun b off hd=>⟨⟨hd.lt,hd.hid,hd.own,hd.tok,hd.far,hd.mat⟩,rfl⟩,fun _ h=>h,fun _ _ h=>.inl h,fun _ _ h=>.inr ⟨h,fun _ _ _=>rfl⟩,fun _ Y h=>.inr ⟨Y,h⟩,fun _ bs h=>.inr ⟨bs,h,.refl bs⟩,fun _ _ _ _=>.same rfl⟩
 exact⟨h.low,h.defers.to fun _ _ hn=>⟨rfl,hn⟩,h.size,fun t v hv=>(h.regs t v hv).evo e,⟨fun n=>(h.env.slot n).evo e rfl (fun _ _=>rfl),h.env.distinct,h.env.hid⟩,h.evo.trans e⟩
def Qzn {id:Nat}{ops:Array Oper}(hm:P.follows .mixedOrders=true) (l:List (Oper×Rec)) {regs':List AV}{own':List Slot}(f:Facts none P ops l s.regs s.own regs' own') (hord:Qjg l [] []=true) (h:Q .normal ⟨regs',own'⟩):AWp P X φ0 w0 ro (.region id ops true) Q s:=fun φ a w hs=>by
 refine Xh8 hm (Qrs f hord (Q:=conc X φ0 w0 Q) (fun φ' a' w' hs'=>⟨φ',_,hs',h⟩) ops.size _ (by simp) ?_ ?_ (fun _ e=>by cases e) φ a _ ?_)
 ·exact Xcn Xgw (by simp)
 ·intro i o c hi hl
  simp only[Xaf,Xcs] at hl
  split at hl<;>simp at hl
 have:=RInv.start (l:=l) (regs:=s.regs) (own:=s.own) hs.drawn
 have e:(fun j=>(Array.replicate ops.size false).getD j false)=fun _=>false:=by
  funext j
  simp only[Xaf,Xcs]
  split<;>rfl
 rw[e]
 exact this
def Less (a b:AV):Prop:=∀(X:Nat->Nat->Prop) (φ:Nat->FSlot) (w:World) (v:Value),RelV X φ w a v->RelV X φ w b v
def Less.rfl {a:AV}:Less a a:=fun _ _ _ _ h=>h
def Less.any {a:AV}:Less a .any:=fun _ _ _ v _=>.any v
def LessL:List AV->List AV->Prop
 |[],[]=>True
 |a::l,b::k=>Less a b/\LessL l k
 |_,_=>False
def LessL.length:∀{l k:List AV},LessL l k->l.length=k.length
 |[],[],_=>_root_.rfl
 |_::_,_::_,h=>by simp[LessL.length h.2]
def LessL.get:∀{l k:List AV},LessL l k->∀(t:Nat) (b:AV),k[t]? = some b->∃a,l[t]? = some a/\Less a b
 |[],[],_,_,_,hb=>by simp at hb
 |_::_,_::_,h,0,b,hb=>by simp at hb;subst hb;exact⟨_,_root_.rfl,h.1⟩
 |_::_,_::_,h,t+1,b,hb=>by simpa using LessL.get h.2 t b (by simpa using hb)
def Sim.less {φ:Nat->FSlot}{a:Act}{w:World}(h:Sim X φ0 w0 φ s a w) {regs':List AV}(hl:LessL s.regs regs'):Sim X φ0 w0 φ ⟨regs',s.own⟩ a w:=
 ⟨h.low,h.defers,h.size.trans hl.length,fun t v hv=>by
  obtain⟨u,hu,hlu⟩:=hl.get t v hv
  exact hlu _ _ _ _ (h.regs t u hu),h.env,h.evo⟩
def Zn2 {c:Code}{regs':List AV}(hl:LessL s.regs regs') (h:AWp P X φ0 w0 ro c Q ⟨regs',s.own⟩):AWp P X φ0 w0 ro c Q s:=fun φ a w hs=>h φ a w (hs.less hl)
end
inductive NLt (k:Nat):AV->Prop where
 |any:NLt k .any
 |lit (v:Value):NLt k (.lit v)
 |agg (l:List AV) (h:∀a∈l,NLt k a):NLt k (.agg l)
 |tup (l:List AV) (h:∀a∈l,NLt k a):NLt k (.tup l)
 |fn (f:Fn) (l c:List AV) (h:∀a∈l,NLt k a) (h':∀a∈c,NLt k a):NLt k (.fn f l c)
 |dat (m:Nat) (xs:List (List AV)) (h:∀x∈xs,∀a∈x,NLt k a):NLt k (.dat m xs)
 |dptr (cs:List AV) (i:Nat) (h:∀a∈cs,NLt k a):NLt k (.dptr cs i)
 |ref (n m j i:Nat) (h:n<k):NLt k (.ref n m j i)
 |own (n m j len:Nat) (h:n<k):NLt k (.own n m j len)
 |acc (n:Nat) (ty:TypeId) (m:Nat) (xs:List (List AV)) (h:n<k) (h':∀x∈xs,∀a∈x,NLt k a):NLt k (.acc n ty m xs)
 |gro (n:Nat) (ty:TypeId) (m len:Nat) (h:n<k):NLt k (.gro n ty m len)
 |row (n q m j len:Nat) (h:n<k):NLt k (.row n q m j len)
 |rowp (n q m j i:Nat) (h:n<k):NLt k (.rowp n q m j i)
 |mp (n:Nat) (h:n<k):NLt k (.mp n)
section
variable {X X' : Nat -> Nat -> Prop} {φ φ' : Nat -> FSlot} {w : World}
def DatOK.env {m:Nat}{xs:List (List AV)}{A:Option Addr}{len cap:Nat}{g:Nat->Nat->Value}(h:DatOK X φ w m xs A len cap g) (hd:∀b off,DataAt X φ w b off->DataAt X' φ' w b off):DatOK X' φ' w m xs A len cap g:=
 ⟨h.hlen,h.hcap,h.hmost,h.hsize,fun hx=>by
  obtain⟨b,o,hA,hc⟩:=h.hcells hx
  exact⟨b,o,hA,fun j x hj i hi=>⟨hd _ _ (hc j x hj i hi).1,(hc j x hj i hi).2⟩⟩⟩
def RelV.env {k:Nat}(hφ:∀n,n<k->φ' n=φ n) (hd:∀b off,DataAt X φ w b off->DataAt X' φ' w b off) {a:AV}{v:Value}(h:RelV X φ w a v):NLt k a->RelV X' φ' w a v:=by
 induction h with
 |any v=>exact fun _=>.any v
 |lit v=>exact fun _=>.lit v
 |agg l vs hs _ ih=>
  intro hn
  cases hn with
  |agg _ hn=>exact .agg l vs hs fun i a hi=>ih i a hi (hn a (Xac hi))
 |tup l vs hs _ ih=>
  intro hn
  cases hn with
  |tup _ hn=>exact .tup l vs hs fun i a hi=>ih i a hi (hn a (Xac hi))
 |fn f first cap us vs hu hv _ _ ih1 ih2=>
  intro hn
  cases hn with
  |fn _ _ _ h1 h2=>exact .fn f first cap us vs hu hv (fun i a hi=>ih1 i a hi (h1 a (Xac hi))) (fun i a hi=>ih2 i a hi (h2 a (Xac hi)))
 |dat m xs A len cap g ok _ ih=>
  intro hn
  cases hn with
  |dat _ _ hn=>exact .dat m xs A len cap g (ok.env hd) fun j x hj i a hi=>ih j x hj i a hi (hn x (Xac hj) a (Xac hi))
 |dptr cs i b o g hc _ ih=>
  intro hn
  cases hn with
  |dptr _ _ hn=>exact .dptr cs i b o g (fun k hk=>⟨hd _ _ (hc k hk).1,(hc k hk).2⟩) fun j a hj=>ih j a hj (hn a (Xac hj))
 |ref n m j i A hn0 h=>
  intro hn
  cases hn with
  |ref _ _ _ _ hlt=>exact .ref n m j i A (by rw[hφ n hlt];exact hn0) (by rw[hφ n hlt];exact h)
 |own n m j len A cap hc hm hn0 h=>
  intro hn
  cases hn with
  |own _ _ _ _ hlt=>exact .own n m j len A cap hc hm (by rw[hφ n hlt];exact hn0) (by rw[hφ n hlt];exact h)
 |acc n ty m xs A len cap g ok _ hn0 ht ih=>
  intro hn
  cases hn with
  |acc _ _ _ _ hlt hn=>exact .acc n ty m xs A len cap g (ok.env hd) (fun j x hj i a hi=>ih j x hj i a hi (hn x (Xac hj) a (Xac hi))) (by rw[hφ n hlt];exact hn0) (by rw[hφ n hlt];exact ht)
 |gro n ty m len A cap hc hm hn0 hv h=>
  intro hn
  cases hn with
  |gro _ _ _ _ hlt=>exact .gro n ty m len A cap hc hm (by rw[hφ n hlt];exact hn0) (by rw[hφ n hlt];exact hv) (by rw[hφ n hlt];exact h)
 |row n q m j len A cap hc hm hn0 h=>
  intro hn
  cases hn with
  |row _ _ _ _ _ hlt=>exact .row n q m j len A cap hc hm (by rw[hφ n hlt];exact hn0) (by rw[hφ n hlt];exact h)
 |rowp n q m j i A hn0 h=>
  intro hn
  cases hn with
  |rowp _ _ _ _ _ hlt=>exact .rowp n q m j i A (by rw[hφ n hlt];exact hn0) (by rw[hφ n hlt];exact h)
 |mp n A hn0 h=>
  intro hn
  cases hn with
  |mp _ hlt=>exact .mp n A (by rw[hφ n hlt];exact hn0) (by rw[hφ n hlt];exact h)
end
inductive SNLt (k:Nat):Slot->Prop where
 |unused:SNLt k .unused
 |dead:SNLt k .dead
 |tok:SNLt k .tok
 |own (m:Nat) (xs:List (List AV)) (h:∀x∈xs,∀a∈x,NLt k a):SNLt k (.own m xs)
 |gro (m:Nat) (xs:List (List AV)) (h:∀x∈xs,∀a∈x,NLt k a):SNLt k (.gro m xs)
 |far (J:(Nat->Nat->Prop)->(Nat->Nat->Prop)->World->Prop):SNLt k (.far J)
 |mat (m:Nat) (rows:List (List (List AV))) (h:∀r∈rows,∀x∈r,∀a∈x,NLt k a):SNLt k (.mat m rows)
 |mp (es:Array MapEntry) (clock:Nat):SNLt k (.mp es clock)
def Spec (P:Program) (f:FuncId) (args:List AV) (σ:List Slot) (res:AV) (σ':List Slot):Prop:=
 ∀(X:Nat->Nat->Prop) (φ:Nat->FSlot) (w:World) (vals:Array Value),vals.size=args.length->(∀i v,args[i]? = some v->RelV X φ w v (vals.getD i undef))->Qo4 X φ w (fun n=>σ.getD n .unused) ->
  Calls P f vals w fun e w'=>∃v φ',e=.returned v/\RelV X φ' w' res v/\Qo4 X φ' w' (fun n=>σ'.getD n .unused)/\Evo X φ w φ' w'
def Zki (C:Array Value->World->(Ending->World->Prop)->Prop) (E:Value->Ending->Prop) (args:List AV) (σ:List Slot) (res:AV) (σ':List Slot):Prop:=
 ∀(X:Nat->Nat->Prop) (φ:Nat->FSlot) (w:World) (vals:Array Value),vals.size=args.length->(∀i v,args[i]? = some v->RelV X φ w v (vals.getD i undef))->Qo4 X φ w (fun n=>σ.getD n .unused) ->
  C vals w fun e w'=>∃v φ',E v e/\RelV X φ' w' res v/\Qo4 X φ' w' (fun n=>σ'.getD n .unused)/\Evo X φ w φ' w'
def Q0t (a:Act):ResultVar->Sem Value
 |.tmp t=>pure (a.tmps.getD t undef)
 |.cell ad t=>do loadVar t (<-asAddr (a.tmps.getD ad undef))
def Zc2 (fn:Func) (a:Act):results fn a.tmps=(fn.results.mapM (Q0t a)) >>= fun vs=>pure (if h:vs.size=1 then vs[0] else .tuple vs):=by
 unfold results
 congr 1
def Zec (P:Program) (s:AS) (rv:ResultVar) (v:AV):Prop:=
 ∀(X:Nat->Nat->Prop) (φ0:Nat->FSlot) (w0:World) (φ:Nat->FSlot) (a:Act) (w:World),Sim X φ0 w0 φ s a w->∃u,(Q0t a rv).run P w=.ok u w/\RelV X φ w v u
def ResL (P:Program) (s:AS):List ResultVar->List AV->Prop
 |[],[]=>True
 |r::l,v::k=>Zec P s r v/\ResL P s l k
 |_,_=>False
def Zg8 {P:Program}{s:AS}{t:Tmp}{v:AV}(h:s.regs.getD t .any=v):Zec P s (.tmp t) v:=fun _ _ _ _ _ _ hs=>⟨_,rfl,h▸hs.opd (.tmp t)⟩
def Zbf {P:Program}{α:Type}(f:α->Sem Value) (w:World):∀(l:List α) (us:List Value),l.length=us.length->(∀(i:Nat) x u,l[i]? = some x->us[i]? = some u->(f x).run P w=.ok u w)->(l.mapM f).run P w=.ok us w
 |[],[],_,_=>rfl
 |x::l,u::us,hl,h=>by
  have h0:=h 0 x u rfl rfl
  have ih:=Zbf f w l us (by simpa using hl) fun i y v hy hv=>h (i+1) y v (by simpa using hy) (by simpa using hv)
  simp only[List.mapM_cons,Xav,h0,Xao,ih]
  rfl
 |[],_::_,hl,_=>by simp at hl
 |_::_,[],hl,_=>by simp at hl
def Qz6:List AV->AV
 |[v]=>v
 |l=>.tup l
def Q74 {P:Program}{X:Nat->Nat->Prop}{φ0 φ:Nat->FSlot}{w0 w:World}{s:AS}{a:Act}(hs:Sim X φ0 w0 φ s a w) (fn:Func) (vs:List AV) (h:ResL P s fn.results.toList vs):∃v,(results fn a.tmps).run P w=.ok v w/\RelV X φ w (Qz6 vs) v:=by
 have key:∀(l:List ResultVar) (vs:List AV),ResL P s l vs->∃us:List Value,us.length=vs.length/\l.length=us.length/\(∀(i:Nat) r u,l[i]? = some r->us[i]? = some u->(Q0t a r).run P w=.ok u w)/\(∀(i:Nat) v u,vs[i]? = some v->us[i]? = some u->RelV X φ w v u):=by
  intro l
  induction l with
  |nil=>
   intro vs h
   cases vs with
   |nil=>exact⟨[],rfl,rfl,by simp,by simp⟩
   |cons=>exact h.elim
  |cons r l ih=>
   intro vs h
   cases vs with
   |nil=>exact h.elim
   |cons v k=>
    obtain⟨u,hu,hr⟩:=h.1 X φ0 w0 φ a w hs
    obtain⟨us,h1,h2,h3,h4⟩:=ih k h.2
    refine⟨u::us,by simp[h1],by simp[h2],fun i r' u' hr' hu'=>?_,fun i v' u' hv' hu'=>?_⟩
    ·cases i with
     |zero=>simp at hr' hu';subst hr' hu';exact hu
     |succ i=>exact h3 i r' u' (by simpa using hr') (by simpa using hu')
    cases i with
    |zero=>simp at hv' hu';subst hv' hu';exact hr
    |succ i=>exact h4 i v' u' (by simpa using hv') (by simpa using hu')
 obtain⟨us,h1,h2,h3,h4⟩:=key _ vs h
 have hm:=Zbf (P:=P) (Q0t a) w fn.results.toList us h2 h3
 have hrun:(results fn a.tmps).run P w=.ok (if h:us.toArray.size=1 then us.toArray[0] else .tuple us.toArray) w:=by
  rw[Zc2,<-Array.toArray_toList (xs:=fn.results),List.mapM_toArray]
  simp only[Xav]
  have:(Functor.map List.toArray (fn.results.toList.mapM (Q0t a))).run P w=.ok us.toArray w:=by
   rw[map_eq_pure_bind]
   simp only[Xav,hm,Xao]
   rfl
  rw[this]
  simp only[Xao]
  rfl
 refine⟨_,hrun,?_⟩
 have tup:RelV X φ w (.tup vs) (.tuple us.toArray):=.tup vs _ (by simp[h1]) fun i v hv=>by
  have:i<us.length:=by rw[h1];exact(Xad.1 hv).1
  have:=h4 i v _ hv (Xab this)
  simpa [Xaf,Xab ‹i<us.length›] using this
 cases vs with
 |nil=>
  cases us with
  |nil=>simpa [Qz6] using tup
  |cons=>simp at h1
 |cons v vs=>
  cases us with
  |nil=>simp at h1
  |cons u us=>
   cases vs with
   |nil=>
    cases us with
    |nil=>simpa [Qz6] using h4 0 v u rfl rfl
    |cons=>simp at h1
   |cons v' vs=>
    cases us with
    |nil=>simp at h1
    |cons u' us=>simpa [Qz6] using tup
structure Fin (P:Program) (fn:Func) (k:Nat) (res:AV) (σ':List Slot) (s:AS):Prop where
 vals:∃vs,ResL P s fn.results.toList vs/\res=Qz6 vs
 names:NLt k res
 len:σ'.length<=k
 slots:∀n,n<k->σ'.getD n .unused=s.slot n/\SNLt k (s.slot n)
def finA (P:Program) (fn:Func) (k:Nat) (res:AV) (σ':List Slot):Exit->AS->Prop
 |.normal,s |.ret,s=>Fin P fn k res σ' s
 |_,_=>False
def Evo.turn {X:Nat->Nat->Prop}{φ0 φ:Nat->FSlot}{w0 w w':World}{row:Option Nat}(h:Evo X φ0 w0 φ w) (low:∀n b,(φ0 n).lies b->b<w0.heap.size) (hg:w.grownBy w' row) (hr:∀r,row=some r->w0.heap.size<=r) (e:Evo0 X φ w φ w'):Evo X φ0 w0 φ w':=by
 have key:∀b,b<w0.heap.size->w'.heap[b]? = w.heap[b]? := fun b hb=>hg.block b (Xbc hb h.size) fun e'=>by
  have:=hr b e'.symm
  omega
 refine⟨e.os.trans h.os,e.tape.trans h.tape,e.output.trans h.output,Xcn h.size e.size,fun b hb hn=>(key b hb).trans (h.blk b hb hn),h.new,fun b off hd=>?_,h.dead,h.own,fun n t hn=>?_,h.far,h.mat,fun n b hn hn'=>(h.shape n b hn hn').trans (.same (key b (low n b (.own hn))))⟩
 ·obtain⟨h1,h2⟩:=h.dat b off hd
  obtain⟨e1,e2⟩:=e.dat b off h1
  exact⟨e1,e2.trans h2⟩
 rcases h.tok n t hn with h1 |⟨h1,h2⟩
 ·exact .inl h1
 exact .inr ⟨h1,fun b L hb=>(key b (low n b (.tok (by rw[hn,hb])))).trans (h2 b L hb)⟩
def Sim.turn {X:Nat->Nat->Prop}{φ0 φ:Nat->FSlot}{w0 w w':World}{s:AS}{a:Act}{row:Option Nat}(h:Sim X φ0 w0 φ s a w) (hg:w.grownBy w' row) (hr:∀r,row=some r->w0.heap.size<=r/\¬Qnz φ r/\(∃o:Obj,w.heap[r]? = some o/\o.isCells=false)/\∃o:Obj,w'.heap[r]? = some o/\o.isCells=false) {ds:List Deferred}(hd:Marks φ w0 w' ds):Sim X φ0 w0 φ s { a with defers:=ds } w':=by
 have hc:∀n b,(φ n).lies b->b<w.heap.size:=fun n b hb=>(h.env.slot n).lt hb
 have e:Evo0 X φ w φ w':=Zir hg (fun r hr'=>(hr r hr').2) hc
 exact⟨h.low,hd,h.size,fun t v hv=>(h.regs t v hv).evo0 e,⟨fun n=>(h.env.slot n).evo0 e rfl fun b hb=>hg.block b (hc n b hb) fun e'=>(hr b e'.symm).2.1 ⟨n,hb⟩,h.env.distinct,fun b off hx=>Xbc (h.env.hid b off hx) hg.size⟩,h.evo.turn h.low hg (fun r hr'=>(hr r hr').1) e⟩
def Q8n {P:Program}{fn:Func}{X:Nat->Nat->Prop}{φ φ':Nat->FSlot}{w0 w':World}{s:AS}{a:Act}{k:Nat}{res:AV}{σ':List Slot}(hk:∀n,k<=n->φ n=.unused) (hs:Sim X φ w0 φ' s a w') (hq:Fin P fn k res σ' s) :
  ∃v,(results fn a.tmps).run P w'=.ok v w'/\∃v' φ'',Ending.returned v=.returned v'/\RelV X φ'' w' res v'/\Qo4 X φ'' w' (fun n=>σ'.getD n .unused)/\Evo X φ w0 φ'' w':=by
 obtain⟨vs,hvs,rfl⟩:=hq.vals
 obtain⟨v,hv,hr⟩:=Q74 hs fn vs hvs
 have gt:∀(n:Nat) (f:FSlot),(if n<k then φ' n else FSlot.unused)=f->f≠.unused->φ' n=f:=fun n f e hf=>by
  split at e
  ·exact e
  exact absurd e.symm hf
 have fw:∀b off,DataAt X φ' w' b off->DataAt X (fun n=>if n<k then φ' n else .unused) w' b off:=fun b off hd=>⟨hd.lt,hd.hid,fun n hn=>hd.own n (gt n _ hn (by simp)),fun n L hn=>hd.tok n L (gt n _ hn (by simp)),fun n Y hn=>hd.far n Y (gt n _ hn (by simp)),fun n bs k hn=>hd.mat n bs k (gt n _ hn (by simp))⟩
 have inv:∀n b,(if n<k then φ' n else FSlot.unused).lies b->n<k/\(φ' n).lies b:=fun n b hb=>by
  split at hb
  ·exact⟨by assumption,hb⟩
  exact(Qf1 hb).elim
 refine⟨v,hv,v,fun n=>if n<k then φ' n else .unused,rfl,hr.env (k:=k) (fun n hn=>by simp[hn]) fw hq.names,⟨fun n=>?_,fun n n' b h1 h2=>hs.env.distinct n n' b (inv n b h1).2 (inv n' b h2).2,hs.env.hid⟩,?_⟩
 ·by_cases hn:n<k
  ·obtain⟨h1,h2⟩:=hq.slots n hn
   (try dsimp only)
   rw[h1]
   have h3:=hs.env.slot n
   generalize s.slot n=sl at h2 h3
   have en:(if n<k then φ' n else FSlot.unused)=φ' n:=Xaz hn
   have row:∀(b m:Nat) (xs:List (List AV)),(∀x∈xs,∀a∈x,NLt k a)->OwnOK X φ' w' b m xs->OwnOK X (fun n=>if n<k then φ' n else .unused) w' b m xs:=fun b m xs hx ⟨⟨cur,ty,c1,c2,c3,c4⟩,c5⟩=>
    ⟨⟨cur,ty,c1,c2,c3,fun j x hj i a hi=>(c4 j x hj i a hi).env (k:=k) (fun n hn=>by simp[hn]) fw (hx x (Xac hj) a (Xac hi))⟩,c5⟩
   cases h2 with
   |unused=>show(if n<k then φ' n else _)=_;rw[Xaz hn];exact h3
   |dead=>show(if n<k then φ' n else _)=_;rw[Xaz hn];exact h3
   |tok=>
    obtain⟨t,ht,ht'⟩:=h3
    exact⟨t,en.trans ht,ht'⟩
   |own m xs hx=>
    obtain⟨b,hb',hok⟩:=h3
    exact⟨b,en.trans hb',row b m xs hx hok⟩
   |gro m xs hx=>
    rcases h3 with ⟨h3,h4⟩ |⟨b,hb',hok⟩
    ·exact .inl ⟨h3,en.trans h4⟩
    exact .inr ⟨b,en.trans hb',row b m xs hx hok⟩
   |far J=>
    obtain⟨Y,D,B,f1,f2,f3⟩:=h3
    exact⟨Y,D,B,en.trans f1,f2,f3.own,fun b off hx hy=>⟨fw b off (f3.dat b off hx hy).1,(f3.dat b off hx hy).2⟩,f3.os,f3.tape,f3.output,f3.size⟩
   |mat m rows hx=>
    obtain⟨bs,m1,m2,m3,m4⟩:=h3
    refine⟨bs,en.trans m1,m2,m3,fun k xs hk=>?_⟩
    rcases m4 k xs hk with m5 |⟨b,m5,m6⟩
    ·exact .inl m5
    exact .inr ⟨b,m5,row b m xs (hx xs (Xac hk)) m6⟩
   |mp es clock=>
    obtain⟨b,hb',hok⟩:=h3
    exact⟨b,en.trans hb',hok⟩
  have e:σ'.getD n .unused=.unused:=by
   have:=hq.len
   simp[Xbb (show σ'.length<=n by omega)]
  (try dsimp only)
  rw[e]
  show(if n<k then φ' n else _)=_
  rw[Xat hn]
 have ev:=hs.evo
 have lk:∀n,φ n≠.unused->n<k:=fun n hn=>by
  rcases Xcm n k with h |h
  ·exact h
  exact absurd (hk n h) hn
 refine⟨ev.os,ev.tape,ev.output,ev.size,ev.blk,fun b ⟨n,hb'⟩=>ev.new b ⟨n,(inv n b hb').2⟩,fun b off hd=>?_,fun n hn=>?_,fun n b hn=>?_,fun n t hn=>?_,fun n Y hn=>?_,fun n bs hn=>?_,fun n b hn hn'=>?_⟩
 ·obtain⟨h1,h2⟩:=ev.dat b off hd
  exact⟨fw b off h1,h2⟩
 all_goals
  have hnk:n<k:=lk n (by rw[hn];simp)
  (try simp only[hnk,Xe4])
 ·exact ev.dead n hn
 ·exact ev.own n b hn
 ·exact ev.tok n t hn
 ·exact ev.far n Y hn
 ·exact ev.mat n bs hn
 simp only[hnk,Xe4] at hn'
 exact ev.shape n b hn hn'
def Qrw {P:Program}{fn:Func}{X:Nat->Nat->Prop}{φ φ':Nat->FSlot}{w0 w':World}{s:AS}{a:Act}{R:Ending->World->Prop}{u:FrameMode}(hu:u≠.run) (hs:Sim X φ w0 φ' s a w')
  (K:∀w'',Sim X φ w0 φ' s { a with defers:=Quv w0 } w''->LeavesInM (FR none) 0 P fn a.tmps R (Quv w0) u w''):LeavesInM (FR none) 0 P fn a.tmps R a.defers u w':=by
 have leave:∀(l:List Nat) (w':World),l.Nodup->(∀D∈l,w0.heap.size<=D/\w'.heap[D]? = some (.deferred (some []))/\¬Qnz φ' D)->Sim X φ w0 φ' s { a with defers:=Quv w0 } w' ->
   LeavesInM (FR none) 0 P fn a.tmps R (l.map (fun D=>{ target:=.collected D,args := #[] })++Quv w0) u w':=by
  intro l
  induction l with
  |nil=>
   intro w' _ _ hs
   exact K w' hs
  |cons D l ih=>
   intro w' hn hD hs
   have h1:=hD D (by simp)
   have hlt:D<w'.heap.size:=(Xa3.1 h1.2.1).1
   refine⟨hu,.inl ⟨D,w'.putObj D (.deferred none),rfl,run_takeDeferred h1.2.1,ih _ (Xem.1 hn).2 (fun D' h'=>⟨(hD D' (Xal _ h')).1,?_,(hD D' (Xal _ h')).2.2⟩) ?_⟩⟩
   ·have hne:D'≠D:=fun e=>(Xem.1 hn).1 (e▸h')
    exact(World.putObj_heap_other (fun e=>hne e)).trans (hD D' (Xal _ h')).2.1
   exact hs.turn (grownBy_putObj' w' D _) (fun r e=>by
    cases e
    exact⟨h1.1,h1.2.2,⟨_,h1.2.1,rfl⟩,_,World.putObj_heap_same hlt,rfl⟩) (.base _ _ _)
 obtain⟨l,hl1,_,hl2,hl3⟩:=hs.defers
 rw[hl1]
 exact leave l w' hl2 hl3 ⟨hs.low,.base _ _ _,hs.size,hs.regs,hs.env,hs.evo⟩
def Qt5 {X:Nat->Nat->Prop}{φ:Nat->FSlot}{w:World}{vals:Array Value}{args:List AV}{σ:List Slot}{n k:Nat}(hk:k<=1) (hsz:vals.size=args.length) (hargs:∀i v,args[i]? = some v->RelV X φ w v (vals.getD i undef)) (henv:Qo4 X φ w (fun n=>σ.getD n .unused)) :
  Sim X φ { w with drawn:=k } φ ⟨args++List.replicate (n-args.length) .any,σ⟩ { tmps:=vals++Array.replicate (n-vals.size) undef,defers:=[] } w:=by
 refine⟨fun n b hb=>(henv.slot n).lt hb,.nil1 _ _ hk,by simp[hsz],fun t v hv=>?_,henv,Evo.refl.to_at⟩
 by_cases ht:t<args.length
 ·simp only[Xas ht] at hv
  have:=hargs t v hv
  simp only[Xaf] at this ⊢
  rwa [Xdb (by omega)]
 simp only[Xam (Xc9 ht),Xdn] at hv
 split at hv
 ·cases hv;exact .any _
 cases hv
def Qsf {X:Nat->Nat->Prop}{φ:Nat->FSlot}{w:World}{σ:List Slot}(henv:Qo4 X φ w (fun n=>σ.getD n .unused)):∀n,σ.length<=n->φ n=.unused:=fun n hn=>by
 have:=henv.slot n
 simp only[Xaj,Xbb hn,Xei] at this
 exact this
def Qs2 {P:Program}{f:FuncId}{fn:Func}{c:Code}(hf:P.funcs[f]? = some fn) (hb:fn.body=some c) {args:List AV}{σ:List Slot}{res:AV}{σ':List Slot}(k:Nat) (hσ:σ.length<=k)
  (h:∀X φ0 w0,(∀n,σ.length<=n->φ0 n=.unused)->w0.drawn≠1->AWp P X φ0 w0 none c (finA P fn k res σ') ⟨args++List.replicate (fn.ntmps-args.length) .any,σ⟩):Spec P f args σ res σ':=by
 intro X φ w vals hsz hargs henv
 have hφ0:=Qsf henv
 refine Xg2.1 (Xf3 (F:=FR none) (n:=0) hf hb trivial (Xej (h X φ { w with drawn:=0 } hφ0 (fun e=>by cases e) φ _ w (Qt5 (k:=0) (Xbg _) hsz hargs henv)) fun e a w' ⟨φ',s,hs,hq⟩=>?_))
 have fin:Fin P fn k res σ' s->LeavesInM (FR none) 0 P fn a.tmps (fun e w'=>∃v φ',e=.returned v/\RelV X φ' w' res v/\Qo4 X φ' w' (fun n=>σ'.getD n .unused)/\Evo X φ w φ' w') a.defers .returning w':=fun hq=>
  Qrw (by simp) hs fun w'' hs2=>by
   rw[Qsg rfl] at hs2 ⊢
   obtain⟨v,h1,v',φ2,h2,h3,h4,h5⟩:=Q8n (fun n hn=>hφ0 n (Xcn hσ hn)) hs2 hq
   exact⟨v,h1,v',φ2,h2,h3,h4,h5.of_at⟩
 cases e with
 |normal=>exact fin hq
 |ret=>exact fin hq
 |exit=>exact hq.elim
 |goto=>exact hq.elim
 |panic=>exact hq.elim
 |outgrown=>exact hq.elim
end
section
section
variable {P : Program} {o : Oper} {rd : List (Operand × AV)} {bl : List (Nat × Slot)} {r : AV}
def Qc6 (h:∀(X:Nat->Nat->Prop) (φ:Nat->FSlot) (a:Act) (w:World),(∀p∈rd,RelV X φ w p.2 (a.eval p.1))->(∀p∈bl,SlotOK X φ w p.1 p.2)->∃v,(execOp a.eval o).run P w=.ok (.value v) w/\RelV X φ w r v):Qd0 P o rd bl r []:=by
 intro X φ a w hr hb hd _ _ next Q k
 obtain⟨v,h1,h2⟩:=h X φ a w hr hb
 refine Qkd h1 ?_
 exact k v φ w h2 (by simp) hd (fun _ _=>rfl) (fun _ _ _=>rfl) Evo.refl
def Qd1 {X:Nat->Nat->Prop}{φ:Nat->FSlot}{w:World}{u v:Value}(h:RelV X φ w (.lit u) v):v=u:=by cases h;rfl
def Q1h {x:Operand}{v:AV}(h:o.op=.move x):Qd0 P o [(x,v)] [] v []:=Qc6 fun X φ a w hr _=>⟨a.eval x,by simp[execOp,h],hr (x,v) (by simp)⟩
def Qwq {x:Operand}{v:AV}(h:o.op=.assign x):Qd0 P o [(x,v)] [] v []:=Qc6 fun X φ a w hr _=>⟨a.eval x,by simp[execOp,h],hr (x,v) (by simp)⟩
def Q1f {c x y:Operand}{b:Bool}{u v:AV}(h:o.op=.pick c x y) (hv:(bif b then u else v)=r):Qd0 P o [(c,.lit (.bool b)),(x,u),(y,v)] [] r []:=Qc6 fun X φ a w hr _=>by
 have h1:a.eval c=.bool b:=Qd1 (hr (c,.lit (.bool b)) (by simp))
 have h2:=hr (x,u) (by simp)
 have h3:=hr (y,v) (by simp)
 subst hv
 refine⟨if b then a.eval x else a.eval y,?_,?_⟩
 ·simp[execOp,h,h1,asBool]
 cases b
 ·exact h3
 exact h2
def binI:BinOp->IntKind->Int->Int->Option Value
 |.add,k,a,b=>some (.int k (k.wrap (a+b)))
 |.sub,k,a,b=>some (.int k (k.wrap (a-b)))
 |.mul,k,a,b=>some (.int k (k.wrap (a*b)))
 |.eql,_,a,b=>some (.bool (a==b))
 |.neq,_,a,b=>some (.bool (a != b))
 |.lss,_,a,b=>some (.bool (a<b))
 |.leq,_,a,b=>some (.bool (a<=b))
 |.gtr,_,a,b=>some (.bool (a>b))
 |.geq,_,a,b=>some (.bool (a>=b))
 |_,_,_,_=>none
def Q6q {op:BinOp}{t t':TypeId}{x y:Operand}{k:IntKind}{a b:Int}{v:Value}(h:o.op=.binOp op t x y t') (hv:binI op k a b=some v):Qd0 P o [(x,.lit (.int k a)),(y,.lit (.int k b))] [] (.lit v) []:=Qc6 fun X φ ac w hr _=>by
 have h1:ac.eval x=.int k a:=Qd1 (hr (x,.lit (.int k a)) (by simp))
 have h2:ac.eval y=.int k b:=Qd1 (hr (y,.lit (.int k b)) (by simp))
 refine⟨v,?_,.lit v⟩
 cases op<;>simp only[binI,Xdv] at hv<;>first |cases hv;done |(subst hv;simp[execOp,h,h1,h2,eqGuard,binOp,Op.intArith,Op.intCmp])
def Qr3 {t t':TypeId}{x y:Operand}{k:IntKind}{a b:Int}(h:o.op=.binOp .quo t x y t') (hb:b≠0):Qd0 P o [(x,.lit (.int k a)),(y,.lit (.int k b))] [] (.lit (.int k (k.wrap (a.tdiv b)))) []:=Qc6 fun X φ ac w hr _=>by
 have h1:ac.eval x=.int k a:=Qd1 (hr (x,.lit (.int k a)) (by simp))
 have h2:ac.eval y=.int k b:=Qd1 (hr (y,.lit (.int k b)) (by simp))
 exact⟨_,by simp[execOp,h,h1,h2,eqGuard,binOp,Op.intDiv,hb],.lit _⟩
def Zj7 {t t':TypeId}{x y:Operand}{k:IntKind}{a b:Int}(h:o.op=.binOp .rem t x y t') (hb:b≠0):Qd0 P o [(x,.lit (.int k a)),(y,.lit (.int k b))] [] (.lit (.int k (a.tmod b))) []:=Qc6 fun X φ ac w hr _=>by
 have h1:ac.eval x=.int k a:=Qd1 (hr (x,.lit (.int k a)) (by simp))
 have h2:ac.eval y=.int k b:=Qd1 (hr (y,.lit (.int k b)) (by simp))
 exact⟨_,by simp[execOp,h,h1,h2,eqGuard,binOp,Op.intDiv,hb],.lit _⟩
def Qo2 {t:TypeId}{x:Operand}{b:Bool}(h:o.op=.unOp .not t x):Qd0 P o [(x,.lit (.bool b))] [] (.lit (.bool !b)) []:=Qc6 fun X φ ac w hr _=>by
 have h1:ac.eval x=.bool b:=Qd1 (hr (x,.lit (.bool b)) (by simp))
 exact⟨_,by simp[execOp,h,h1,Op.unary],.lit _⟩
def Zj8 {t:TypeId}{x:Operand}{k:IntKind}{a:Int}(h:o.op=.unOp .neg t x):Qd0 P o [(x,.lit (.int k a))] [] (.lit (.int k (k.wrap (0-a)))) []:=Qc6 fun X φ ac w hr _=>by
 have h1:ac.eval x=.int k a:=Qd1 (hr (x,.lit (.int k a)) (by simp))
 exact⟨_,by simp[execOp,h,h1,Op.unary,Op.intArith],.lit _⟩
def Zd2 {t t':TypeId}{x:Operand}{k k':IntKind}{a:Int}(h:o.op=.convert t t' x) (ht:(P.underlying t).isSome=true) (ht':P.underlying t'=some (.int k')):Qd0 P o [(x,.lit (.int k a))] [] (.lit (.int k' (k'.wrap a))) []:=Qc6 fun X φ ac w hr _=>by
 have h1:ac.eval x=.int k a:=Qd1 (hr (x,.lit (.int k a)) (by simp))
 obtain⟨d,hd⟩:=Option.isSome_iff_exists.1 ht
 exact⟨_,by simp[execOp,h,h1,convert,Xa8 hd,Xa8 ht',Conv.intToInt],.lit _⟩
def Qux {x y:Operand}{ts:Array TypeId}{k:IntKind}{a b:Int}(h:o.op=.call { callee:=.builtin .max,args := #[x,y],argTypes:=ts }):Qd0 P o [(x,.lit (.int k a)),(y,.lit (.int k b))] [] (.lit (.int k (if b>a then b else a))) []:=Qc6 fun X φ ac w hr _=>by
 have h1:ac.eval x=.int k a:=Qd1 (hr (x,.lit (.int k a)) (by simp))
 have h2:ac.eval y=.int k b:=Qd1 (hr (y,.lit (.int k b)) (by simp))
 exact⟨_,by simp[execOp,h,h1,h2,resolve,invoke,builtin,Builtin.max_,Builtin.max2],.lit _⟩
def Qo3 {x y:Operand}{ts:Array TypeId}{k:IntKind}{a b:Int}(h:o.op=.call { callee:=.builtin .min,args := #[x,y],argTypes:=ts }):Qd0 P o [(x,.lit (.int k a)),(y,.lit (.int k b))] [] (.lit (.int k (if b<a then b else a))) []:=Qc6 fun X φ ac w hr _=>by
 have h1:ac.eval x=.int k a:=Qd1 (hr (x,.lit (.int k a)) (by simp))
 have h2:ac.eval y=.int k b:=Qd1 (hr (y,.lit (.int k b)) (by simp))
 exact⟨_,by simp[execOp,h,h1,h2,resolve,invoke,builtin,Builtin.min_,Builtin.min2],.lit _⟩
def Q3y {x:Operand}{i:Nat}{l:List AV}{v:AV}(h:o.op=.extract x i) (hv:l[i]? = some v):Qd0 P o [(x,.tup l)] [] v []:=Qc6 fun X φ ac w hr _=>by
 have h1:=hr (x,.tup l) (by simp)
 dsimp only at h1
 cases hx:ac.eval x with
 |tuple vs=>
  rw[hx] at h1
  cases h1 with
  |tup _ _ hs h2=>
   have hi:=(Xad.1 hv).1
   have h3:=h2 i v hv
   refine⟨vs.getD i undef,?_,h3⟩
   have hg:vs[i]? = some (vs.getD i undef):=by
    rw[Xaf,Xa1 (by omega)];rfl
   have he:Instr.extract (.tuple vs) i=pure (vs.getD i undef):=by
    unfold Instr.extract
    dsimp only
    rw[hg]
   simp only[execOp,h,hx,he,Xav,Xcr,Xao]
 |_=>rw[hx] at h1;cases h1
structure TI (P:Program) (t:TypeId) (agg:Bool) (size:Nat):Prop where
 und:∃d,P.underlying t=some d/\(match d with |.struct _ |.array _ _=>true |_=>false)=agg
 inf:∃i,P.info? t=some i/\i.size=size
def TI.isAgg {t:TypeId}{g:Bool}{n:Nat}(h:TI P t g n) (w:World):(isAgg t).run P w=.ok g w:=by
 obtain⟨d,hd,hg⟩:=h.und
 unfold Go.isAgg
 simp only[Xav,Xa8 hd,Xao]
 subst hg
 cases d<;>rfl
def TI.size {t:TypeId}{g:Bool}{n:Nat}(h:TI P t g n) (w:World):(sizeOf t).run P w=.ok n w:=by
 obtain⟨i,hi,hn⟩:=h.inf
 simp[sizeOf,typeInfo,hi,hn]
def Q9b {x:Operand}{t ft:TypeId}{f:Nat}{fs:Array Field}{fl:Field}{g:Bool}{n:Nat}{l:List AV}(h:o.op=.field t x f) (ht:P.underlying t=some (.struct fs)) (hf:fs[f]? = some fl) (hft:fl.type=ft) (hi:TI P ft g n)
  (hl:fl.offset+n<=l.length) (hn:g=false->n=1) (hv:(bif g then .agg ((l.drop fl.offset).take n) else l.getD fl.offset .any)=r):Qd0 P o [(x,.agg l)] [] r []:=Qc6 fun X φ ac w hr _=>by
 have h1:=hr (x,.agg l) (by simp)
 dsimp only at h1
 cases hx:ac.eval x with
 |agg vs=>
  rw[hx] at h1
  cases h1 with
  |agg _ _ hs h2=>
   subst hft
   cases g with
   |false=>
    have hn1:=hn rfl
    have hlt:fl.offset<vs.size:=by omega
    refine⟨vs[fl.offset],?_,?_⟩
    ·have hg:vs[fl.offset]? = some vs[fl.offset]:=Xa1 hlt
     simp[execOp,h,hx,Instr.field,Xa8 ht,hf,asAgg,part,hi.isAgg,hg]
    subst hv
    have:=h2 fl.offset (l.getD fl.offset .any) (by rw[Xaj,Xab (by omega)];rfl)
    simpa [Xaf,hlt] using this
   |true=>
    refine⟨.agg (vs.extract fl.offset (fl.offset+n)),?_,?_⟩
    ·simp[execOp,h,hx,Instr.field,Xa8 ht,hf,asAgg,part,hi.isAgg,hi.size]
    subst hv
    refine .agg _ _ (by simp;omega) fun i a hia=>?_
    rw[Xbi] at hia
    split at hia
    ·rw[Xch] at hia
     have:=h2 _ a hia
     rw[Xaf] at this ⊢
     rwa [Array.getElem?_extract,Xaz (by omega)]
    cases hia
 |_=>rw[hx] at h1;cases h1
def EqT (P:Program) (d:Nat) (t:TypeId) (n:Nat):Prop:=∀(w:World) (ls ks:List Int),ls.length=n->ks.length=n->(Op.equalIn d t (.agg (ls.map (Value.int .i64)).toArray) (.agg (ks.map (Value.int .i64)).toArray)).run P w=.ok (ls==ks) w
inductive EqF (P:Program) (d:Nat):Nat->List Field->Nat->Prop where
 |nil (n:Nat):EqF P d n [] n
 | int {off n : Nat} {f : Field} {fs : List Field} (k : IntKind) (h1 : (f.name != "_") = true) (h2 : f.offset = off) (h3 : P.underlying f.type = some (.int k)) (h : EqF P d (off + 1) fs n) : EqF P d off (f :: fs) n
 | agg {off n : Nat} {f : Field} {fs : List Field} (k : Nat) (h1 : (f.name != "_") = true) (h2 : f.offset = off) (h3 : TI P f.type true k) (h4 : EqT P (d + 1) f.type k) (h : EqF P d (off + k) fs n) : EqF P d off (f :: fs) n
def EqF.le {d off n:Nat}{fs:List Field}(h:EqF P d off fs n):off<=n:=by
 induction h with
 |nil=>exact Xay _
 |int _ _ _ _ _ ih=>omega
 |agg _ _ _ _ _ _ ih=>omega
def EqF.run {d:Nat}(w:World) {n:Nat}(ls ks:List Int) (ha:ls.length=n) (hb:ks.length=n) {off:Nat}{fs:List Field}(h:EqF P d off fs n):(Op.eqFields (d+1) (ls.map (Value.int .i64)).toArray (ks.map (Value.int .i64)).toArray fs).run P w=.ok (ls.drop off==ks.drop off) w:=by
 induction h with
 |nil n=>
  rw[Xcp (by omega),Xcp (by omega)]
  rfl
 |@int off n f fs k h1 h2 h3 h ih=>
  have hle:=h.le
  have hn : (f.name ≠ "_") := by simpa using h1
  have hna:(isAgg f.type).run P w=.ok false w:=by
   unfold Go.isAgg
   simp only[Xav,Xa8 h3,Xao]
   rfl
  have hp:∀(l:List Int) (hl:l.length=n),(part f.type (l.map (Value.int .i64)).toArray f.offset).run P w=.ok (.int .i64 (l[off]'(by omega))) w:=fun l hl=>by
   subst h2
   have e:((l.map (Value.int .i64)).toArray)[f.offset]? = some (.int .i64 (l[f.offset]'(by omega))):=by simp
   simp only[part,Xav,hna,Xao,Xc8,Xff,e]
   rfl
  have ih':=ih ha hb
  simp only[Op.eqFields,Xaz hn,Xav,hp ls ha,hp ks hb,Xao,run_equalIn_int w d f.type .i64 k _ _ h3]
  rw[Xbe (show off<ls.length by omega),Xbe (show off<ks.length by omega)]
  cases he:(ls[off]'(by omega)==ks[off]'(by omega)) with
  |false=>simp only[Xd9,Xe4,Xhg,he,Bool.false_and];rfl
  |true=>simp only[Xb4,Xc8,Xff,ih',Xhg,he,Xcc]
 |@agg off n f fs k h1 h2 h3 h4 h ih=>
  have hle:=h.le
  have hn : (f.name ≠ "_") := by simpa using h1
  have hp:∀(l:List Int) (hl:l.length=n),(part f.type (l.map (Value.int .i64)).toArray f.offset).run P w=.ok (.agg (((l.drop off).take k).map (Value.int .i64)).toArray) w:=fun l hl=>by
   subst h2
   have e:(l.map (Value.int .i64)).toArray.extract f.offset (f.offset+k)=(((l.drop f.offset).take k).map (Value.int .i64)).toArray:=by
    simp[Xh5]
   simp only[part,Xav,h3.isAgg,h3.size,Xao,Xe4,e]
   rfl
  have ih':=ih ha hb
  simp only[Op.eqFields,Xaz hn,Xav,hp ls ha,hp ks hb,Xao,h4 w _ _ (show((ls.drop off).take k).length=k by simp;omega) (show((ks.drop off).take k).length=k by simp;omega)]
  have sp:∀l:List Int,l.drop off=(l.drop off).take k++l.drop (off+k):=fun l=>by
   rw[<-Xez,Xcf]
  have e:(ls.drop off==ks.drop off)=(((ls.drop off).take k==(ks.drop off).take k)&&(ls.drop (off+k)==ks.drop (off+k))):=by
   have hl:((ls.drop off).take k).length=((ks.drop off).take k).length:=by simp;omega
   rw[Xh2,Xaq,Xbm,Xbm,Xbm]
   refine⟨fun h=>⟨by rw[h],by rw[<-Xez,<-Xez,h]⟩,fun h=>?_⟩
   rw[sp ls,sp ks,h.1,h.2]
  cases he:((ls.drop off).take k==(ks.drop off).take k) with
  |false=>rw[e,he];simp
  |true=>rw[e,he];simp only[Xb4,Xc8,Xff,ih',Xcc]
def Zdh {d n:Nat}{t:TypeId}{fs:Array Field}(ht:P.underlying t=some (.struct fs)) (hp:P.stoodInHeld t=false) (h:EqF P d 0 fs.toList n):EqT P (d+2) t n:=fun w ls ks ha hb=>by
 have hf:P.fieldsOf t=fs:=by simp[Program.fieldsOf,ht]
 rw[run_equalIn_struct w (d+1) t _ _ (by rw[hf];exact ht) hp,hf,h.run w ls ks ha hb]
 simp
def ints (l:List Int):List AV:=l.map fun x=>.lit (.int .i64 x)
def Za2 {X:Nat->Nat->Prop}{φ:Nat->FSlot}{w:World}{l:List Int}{v:Value}(h:RelV X φ w (.agg (ints l)) v):v=.agg (l.map (Value.int .i64)).toArray:=by
 cases h with
 |agg _ vs hs hr=>
  congr 1
  apply Array.ext
  ·simpa [ints] using hs
  intro i h1 h2
  have hil:i<l.length:=by simpa using h2
  have:=hr i (.lit (.int .i64 l[i])) (by simp only[ints,Xaw,Xab hil,Xca])
  have:=Qd1 this
  rw[Xaf,Xa1 h1] at this
  simpa using this
def Zka {t t':TypeId}{x y:Operand}(ls ks:List Int) {n:Nat}{d:Nat}(h:o.op=.binOp .eql t x y t') (hd:d=10000) (he:EqT P d t n) (hg:P.eqGuardType P.depth t=false) (ha:ls.length=n) (hb:ks.length=n) :
  Qd0 P o [(x,.agg (ints ls)),(y,.agg (ints ks))] [] (.lit (.bool (ls==ks))) []:=Qc6 fun X φ ac w hr _=>by
 have h1:=Za2 (hr (x,.agg (ints ls)) (by simp))
 have h2:=Za2 (hr (y,.agg (ints ks)) (by simp))
 dsimp only at h1 h2
 subst hd
 exact⟨_,by simp only[execOp,h,h1,h2,Xav,run_eqGuard_agg w _ t _ _ _ _ hg,Xao,run_eql_struct,he w ls ks ha hb];rfl,.lit _⟩
end
end
section
def CellsAt (X:Nat->Nat->Prop) (φ:Nat->FSlot) (w:World) (b o:Nat) (cs:List AV):Prop:=
 ∃g:Nat->Value,∀k a,cs[k]? = some a->w.cell? ⟨b,o+k,none⟩=some (g k)/\RelV X φ w a (g k)
section
variable {P : Program} {o : Oper} {X : Nat -> Nat -> Prop} {φ : Nat -> FSlot} {w : World} {r : AV}
def Qft {j m n i:Nat}(hj:j<n) (hi:i<m):j*m+i<n*m:=by
 have h1:(j+1)*m<=n*m:=Xbl m hj
 rw[Xcu] at h1
 omega
def OwnOK.cells {b m:Nat}{xs:List (List AV)}(h:OwnOK X φ w b m xs) {j:Nat}{c:List AV}(hj:xs[j]? = some c):CellsAt X φ w b (j*m) c:=by
 obtain⟨cur,ty,h1,h2,h3,h4⟩:=h.blk
 refine⟨fun k=>cur.getD (j*m+k) undef,fun k a hk=>⟨?_,h4 j c hj k a hk⟩⟩
 have hjl:=(Xad.1 hj).1
 have hkl:=(Xad.1 hk).1
 rw[h3 c (Xac hj)] at hkl
 have:=Qft hjl hkl
 have hlt:j*m+k<cur.size:=by omega
 simp only[World.cell?,h1]
 simp[Xaf,hlt]
def CellsAt.drop {b o:Nat}{cs:List AV}(h:CellsAt X φ w b o cs) (i:Nat):CellsAt X φ w b (o+i) (cs.drop i):=by
 obtain⟨g,hg⟩:=h
 refine⟨fun k=>g (i+k),fun k a hk=>?_⟩
 rw[Xch] at hk
 have:=hg _ a hk
 rwa [<-Xeg] at this
def ldA (g:Bool) (n i:Nat) (cs:List AV):AV:=bif g then .agg ((cs.drop i).take n) else cs.getD i .any
def CellsAt.load {b of i n:Nat}{cs:List AV}{t:TypeId}{g:Bool}(h:CellsAt X φ w b of cs) (ht:TI P t g n) (hn:i+n<=cs.length) (hg:g=false->n=1):∃v,(loadVar t ⟨b,of+i,none⟩).run P w=.ok v w/\RelV X φ w (ldA g n i cs) v:=by
 obtain⟨f,hf⟩:=h
 cases g with
 |false=>
  have h1:=hg rfl
  have hget:cs[i]? = some (cs.getD i .any):=by rw[Xaj,Xab (by omega)];rfl
  obtain⟨h2,h3⟩:=hf i _ hget
  refine⟨f i,?_,h3⟩
  have hl:(Go.load (⟨b,of+i,none⟩:Addr)).run P w=.ok (f i) w:=by simp[Go.load,Sem.run,h2]
  simp only[loadVar,Xav,ht.isAgg,Xao,Xc8,Xff,hl]
 |true=>
  have hc:=run_loadCells (P:=P) w ⟨b,of+i,none⟩ n (fun k=>f (i+k)) (fun k hk=>by
   rw[Xfa]
   have:=(hf (i+k) (cs.getD (i+k) .any) (by rw[Xaj,Xab (by omega)];rfl)).1
   rwa [<-Xeg] at this)
  refine⟨.agg ((List.range n).map fun k=>f (i+k)).toArray,?_,?_⟩
  ·simp only[loadVar,Xav,ht.isAgg,ht.size,Xao,Xe4,hc]
   rfl
  refine .agg _ _ (by simp;omega) fun k a hk=>?_
  rw[Xbi] at hk
  split at hk
  ·rename_i hkn
   rw[Xch] at hk
   have:=(hf _ a hk).2
   simpa [Xaf,hkn] using this
  cases hk
def Qs5 {n m j i:Nat}{v:Value}(h:RelV X φ w (.ref n m j i) v) {b:Nat}(hb:φ n=.own b):v=.pointer (some ⟨b,j*m+i,none⟩):=by
 cases h with
 |ref _ _ _ _ A hn h=>rw[h b hb]
def Q76 {n m j len:Nat}{v:Value}(h:RelV X φ w (.own n m j len) v) {b:Nat}(hb:φ n=.own b):∃cap,len<=cap/\cap<=maxLen/\v=.slice (some ⟨b,j*m,none⟩) len cap:=by
 cases h with
 |own _ _ _ _ A cap hc hm hn h=>exact⟨cap,hc,hm,by rw[h b hb]⟩
def Q1i {x:Operand}{t:TypeId}{g:Bool}{sz n m j i:Nat}{xs:List (List AV)}{c:List AV}(h:o.op=.load t x) (ht:TI P t g sz) (hg:g=false->sz=1) (hj:xs[j]? = some c) (hi:i+sz<=c.length) (hr:ldA g sz i c=r) :
  Qd0 P o [(x,.ref n m j i)] [(n,.own m xs)] r []:=Qc6 fun X φ a w hrd hbl=>by
 obtain⟨b,hb,hown⟩:=hbl (n,.own m xs) (by simp)
 have hx:a.eval x=_:=Qs5 (hrd (x,.ref n m j i) (by simp)) hb
 obtain⟨v,hv,hrel⟩:=(hown.cells hj).load ht hi hg
 refine⟨v,?_,hr▸hrel⟩
 simp only[execOp,h,hx,Instr.loadAt,Instr.sureAddr,Xav,Xcr,Xao,hv]
def Qzs {x:Operand}{t:TypeId}{g:Bool}{sz i:Nat}{c:List AV}(h:o.op=.load t x) (ht:TI P t g sz) (hg:g=false->sz=1) (hi:i+sz<=c.length) (hr:ldA g sz i c=r) :
  Qd0 P o [(x,.dptr c i)] [] r []:=Qc6 fun X φ a w hrd _=>by
 have hx:=hrd (x,.dptr c i) (by simp)
 dsimp only at hx
 cases hv:a.eval x with
 |pointer A=>
  rw[hv] at hx
  cases hx with
  |dptr _ _ b of g' hc hrel=>
   have hcs:CellsAt X φ w b of c:=⟨g',fun k u hk=>⟨(hc k (Xad.1 hk).1).2,hrel k u hk⟩⟩
   obtain⟨v,hv',hrel'⟩:=hcs.load ht hi hg
   refine⟨v,?_,hr▸hrel'⟩
   simp only[execOp,h,hv,Instr.loadAt,Instr.sureAddr,Xav,Xcr,Xao,hv']
 |_=>rw[hv] at hx;cases hx
def AV.one:AV->Bool
 |.lit v=>v.oneCell'
 |.dat .. |.own .. |.ref .. |.dptr .. |.acc .. |.gro .. |.fn .. |.row .. |.rowp .. |.mp .. => true
 |_=>false
def AV.one_spec {a:AV}{v:Value}(h:RelV X φ w a v) (h1:a.one=true):v.oneCell'=true:=by
 cases h with
 |lit=>exact h1
 |any=>cases h1
 |agg=>cases h1
 |tup=>cases h1
 |_=>rfl
def stA:AV->List AV
 |.agg l=>l
 |a=>[a]
def Q2o {a:AV}{v:Value}(h:RelV X φ w a v) (h1:(stA a).all AV.one=true):v.cells.size=(stA a).length/\(∀u∈v.cells.toList,u.oneCell'=true)/\∀k c,(stA a)[k]? = some c->RelV X φ w c (v.cells.toList.getD k undef):=by
 have single:∀{a:AV}{v:Value},RelV X φ w a v->a.one=true->v.cells = #[v]/\stA a=[a]:=fun {a v} h ho=>by
  have h2:=AV.one_spec h ho
  refine⟨?_,?_⟩
  ·cases v with
   |agg=>simp[Value.oneCell'] at h2
   |tuple=>simp[Value.oneCell'] at h2
   |_=>rfl
  cases a with
  |agg=>simp[AV.one] at ho
  |_=>rfl
 have fin:∀{a:AV}{v:Value},RelV X φ w a v->a.one=true->v.cells.size=(stA a).length/\(∀u∈v.cells.toList,u.oneCell'=true)/\∀k c,(stA a)[k]? = some c->RelV X φ w c (v.cells.toList.getD k undef):=fun {a v} h ho=>by
  obtain⟨e1,e2⟩:=single h ho
  rw[e1,e2]
  refine⟨rfl,fun u hu=>?_,fun k c hk=>?_⟩
  ·simp at hu;subst hu;exact AV.one_spec h ho
  cases k with
  |zero=>simp at hk;subst hk;exact h
  |succ k=>simp at hk
 cases a with
 |agg l=>
  cases h with
  |agg _ vs hs hr=>
   refine⟨hs,fun u hu=>?_,fun k c hk=>?_⟩
   ·obtain⟨k,hk,rfl⟩:=Xdz hu
    have hk':k<vs.size:=by simpa [Value.cells] using hk
    have h3:=hr k l[k] (Xab (by omega))
    have h4:=Xa6.1 h1 l[k] (Xb2 (show k<l.length by omega))
    have:=AV.one_spec h3 h4
    rw[Xaf,Xa1 hk'] at this
    simpa [Value.cells] using this
   have:=hr k c hk
   rw[Xaf] at this
   rw[Xaj]
   simpa [Value.cells] using this
 |any=>simp[stA,AV.one] at h1
 |tup=>simp[stA,AV.one] at h1
 |lit v=>exact fin h (by simpa [stA] using h1)
 |fn=>exact fin h rfl
 |dat=>exact fin h rfl
 |dptr=>exact fin h rfl
 |ref=>exact fin h rfl
 |own=>exact fin h rfl
 |acc=>exact fin h rfl
 |gro=>exact fin h rfl
 |row=>exact fin h rfl
 |rowp=>exact fin h rfl
 |mp=>exact fin h rfl
def Qj7 (c:List AV) (i:Nat) (ys:List AV):List AV:=c.take i++ys++c.drop (i+ys.length)
def Evo.row {b:Nat}(hn:∃n,Blk φ n b) (hd:Qdu φ) (cs:Array Value) (hcs:∀cur ty s,w.heap[b]? = some (.cells cur ty s)->cs.size=cur.size):Evo X φ w φ (w.setRow b cs):=by
 obtain⟨n,hn⟩:=hn
 refine⟨rfl,rfl,rfl,by simp,fun b' _ hb'=>Xea w b b' cs fun e=>hb' ⟨n,e▸hn.lies⟩,fun _ h=>.inl h,fun b' off hdat=>?_,fun _ h=>h,fun _ _ h=>.inl h,fun n' t ht=>.inr ⟨ht,fun b' L e=>Xea w b b' cs fun eb=>?_⟩,fun _ Y h=>.inr ⟨Y,h⟩,fun _ bs h=>.inr ⟨bs,h,.refl bs⟩,fun n' b' _ _ cur ty s hc=>?_⟩
 ·have hne:b'≠b:=fun e=>hdat.blk (e▸hn)
  refine⟨⟨by simpa using hdat.lt,hdat.hid,hdat.own,hdat.tok,hdat.far,hdat.mat⟩,?_⟩
  exact Xcd (Xea w b b' cs hne)
 ·subst e
  subst eb
  have:=hd n n' b' hn.lies (.tok ht)
  subst this
  exact hn.notok ht
 by_cases e:b'=b
 ·subst e
  exact⟨cs,Xgq w b' cur _ ty _ hc,hcs cur ty s hc⟩
 exact⟨cur,(Xea w b b' cs e).trans hc,rfl⟩
def Zcz {x y:Operand}{t:TypeId}{g:Bool}{n b m j i:Nat}{xs:List (List AV)}{c:List AV}{v:AV}{a:Act}(h:o.op=.store t x y) (ht:TI P t g (stA v).length) (h1:(stA v).all AV.one=true) (hj:xs[j]? = some c) (hi:i+(stA v).length<=c.length) {xs':List (List AV)}(hx':xs.set j (Qj7 c i (stA v))=xs')
  (hx:a.eval x=.pointer (some ⟨b,j*m+i,none⟩)) (hv:RelV X φ w v (a.eval y)) (hown:OwnOK X φ w b m xs) (hb:Blk φ n b) (hd:Qdu φ) :
  ∃cs:Array Value,(execOp a.eval o).run P w=.ok .skip (w.setRow b cs)/\Evo X φ w φ (w.setRow b cs)/\OwnOK X φ (w.setRow b cs) b m xs':=by
 obtain⟨hs,ho,hr⟩:=Q2o hv h1
 obtain⟨cur,ty,h2,h3,h4,h5⟩:=hown.blk
 have hjl:=(Xad.1 hj).1
 have hcl:=h4 c (Xac hj)
 have hsz:j*m+i+(stA v).length<=cur.size:=by
  have h6:(j+1)*m<=xs.length*m:=Xbl m hjl
  rw[Xcu] at h6
  omega
 generalize hvs:(a.eval y).cells=vs at hs ho hr
 have hst:=run_storeCells_at P b (j*m+i) ty vs.toList 0 cur w h2 (by simp;omega) ho
 simp only[Xdq] at hst
 have hrun:(execOp a.eval o).run P w=.ok .skip (w.setRow b (cur.toList.take (j*m+i)++vs.toList++cur.toList.drop (j*m+i+vs.toList.length)).toArray):=by
  simp only[execOp,h,hx,Instr.storeAt,Instr.sureAddr,Xav,Xcr,Xao,storeVar,hvs,ht.size,hs,ne_eq,not_true_eq_false,Xff,hst]
 have hcs:∀cur' ty' s',w.heap[b]? = some (.cells cur' ty' s')->(cur.toList.take (j*m+i)++vs.toList++cur.toList.drop (j*m+i+vs.toList.length)).toArray.size=cur'.size:=fun cur' ty' s' h'=>by
  rw[h2] at h'
  cases h'
  simp
  omega
 have hlv:vs.toList.length=(stA v).length:=by simpa using hs
 have evo:=Evo.row (X:=X) (w:=w) ⟨n,hb⟩ hd (cur.toList.take (j*m+i)++vs.toList++cur.toList.drop (j*m+i+vs.toList.length)).toArray hcs
 have hspl:(Qj7 c i (stA v)).length=c.length:=by simp[Qj7];omega
 refine⟨_,hrun,evo,⟨_,ty,Xgq w b cur _ ty _ h2,?_,?_,?_⟩,hown.hid⟩
 ·rw[<-hx',Xgu]
  simp
  omega
 ·intro z hz
  rw[<-hx'] at hz
  rcases Xd8 hz with hz |rfl
  ·exact h4 z hz
  rw[hspl,hcl]
 intro j' z hz i' u hu
 refine RelV.evo ?_ evo
 rw[<-hx'] at hz
 have hi'm:i'<m:=by
  have hlz:z.length=m:=by
   rcases Xd8 (Xac hz) with hz |rfl
   ·exact h4 z hz
   rw[hspl,hcl]
  have:=(Xad.1 hu).1
  omega
 by_cases hjj:j'=j
 ·subst hjj
  rw[Xd0 hjl] at hz
  cases hz
  by_cases h6:i'<i
  ·have hget:(Qj7 c i (stA v))[i']? = c[i']? := by
    simp only[Qj7,Xan]
    rw[Xas (by simp;omega),Xbi,Xaz h6]
   rw[hget] at hu
   have:=h5 j' c hj i' u hu
   rw[Xaf] at this ⊢
   rw[Xan,Xd6,Xas (by simp;omega),Xbi,Xaz (by omega)]
   simpa using this
  by_cases h7:i'<i+(stA v).length
  ·have hget:(Qj7 c i (stA v))[i']? = (stA v)[i'-i]? := by
    simp only[Qj7,Xan]
    rw[Xam (by simp;omega),Xas (by simp;omega)]
    congr 1
    simp;omega
   rw[hget] at hu
   have:=hr (i'-i) u hu
   rw[Xaj] at this
   rw[Xaf,Xan,Xd6,Xam (by simp;omega),Xas (by simp;omega)]
   have e:j'*m+i'-(List.take (j'*m+i) cur.toList).length=i'-i:=by simp;omega
   rw[e]
   exact this
  have hget:(Qj7 c i (stA v))[i']? = c[i']? := by
   simp only[Qj7,Xan]
   rw[Xam (by simp;omega),Xam (by simp;omega),Xch]
   congr 1
   simp;omega
  rw[hget] at hu
  have:=h5 j' c hj i' u hu
  rw[Xaf] at this ⊢
  rw[Xan,Xd6,Xam (by simp;omega),Xam (by simp;omega),Xch]
  have e:j'*m+i+vs.toList.length+(j'*m+i'-(List.take (j'*m+i) cur.toList).length-vs.toList.length)=j'*m+i':=by simp;omega
  rw[e]
  simpa using this
 rw[Xci (Ne.symm hjj)] at hz
 have:=h5 j' z hz i' u hu
 rw[Xaf] at this ⊢
 by_cases h8:j'<j
 ·have h9:(j'+1)*m<=j*m:=Xbl m h8
  rw[Xcu] at h9
  rw[Xan,Xd6,Xas (by simp;omega),Xbi,Xaz (by omega)]
  simpa using this
 have h9:(j+1)*m<=j'*m:=Xbl m (by omega)
 rw[Xcu] at h9
 rw[Xan,Xd6,Xam (by simp;omega),Xam (by simp;omega),Xch]
 have e:j*m+i+vs.toList.length+(j'*m+i'-(List.take (j*m+i) cur.toList).length-vs.toList.length)=j'*m+i':=by simp;omega
 rw[e]
 simpa using this
def Qzp {x y:Operand}{t:TypeId}{g:Bool}{n m j i:Nat}{xs:List (List AV)}{c:List AV}{v:AV}(h:o.op=.store t x y) (ht:TI P t g (stA v).length) (h1:(stA v).all AV.one=true) (hj:xs[j]? = some c) (hi:i+(stA v).length<=c.length) {xs':List (List AV)}(hx':xs.set j (Qj7 c i (stA v))=xs') :
  Qd0 P o [(x,.ref n m j i),(y,v)] [(n,.own m xs)] .any [(n,.own m xs')]:=by
 intro X φ a w hrd hbl hd hX hlt next Q k
 obtain⟨b,hb,hown⟩:=hbl (n,.own m xs) (by simp)
 obtain⟨cs,hrun,evo,hok⟩:=Zcz h ht h1 hj hi hx' (Qs5 (hrd (x,.ref n m j i) (by simp)) hb) (hrd (y,v) (by simp)) hown (.inl hb) hd
 exact Q6b hrun (k undef φ _ (.any _) (fun p hp=>by simp at hp;subst hp;exact⟨b,hb,hok⟩) hd (fun _ _=>rfl) (fun b' _ hb'=>Xea w b b' _ fun e=>hb' (n,.own m xs') (by simp) (e▸.inl hb)) evo)
def Qy8 {t ft:TypeId}{f:Nat}{fs:Array Field}{fl:Field}{g:Bool}{n:Nat}(ht:P.underlying t=some (.struct fs)) (hf:fs[f]? = some fl) (hft:fl.type=ft) (hi:TI P ft g n) (hn:n≠0) (b of:Nat) (w:World) :
  (Instr.fieldAt t (.pointer (some ⟨b,of,none⟩)) f).run P w=.ok (.pointer (some ⟨b,of+fl.offset,none⟩)) w:=by
 subst hft
 simp[Instr.fieldAt,Xa8 ht,hf,Instr.sureAddr,fieldPlace,hi.size,hn,Xfa]
def Qzu {x:Operand}{t ft:TypeId}{f:Nat}{fs:Array Field}{fl:Field}{g:Bool}{sz n m j i i':Nat}{xs:List (List AV)}(h:o.op=.fieldAddr t x f) (ht:P.underlying t=some (.struct fs)) (hf:fs[f]? = some fl) (hft:fl.type=ft) (hi:TI P ft g sz) (hn:sz≠0) (hi':i+fl.offset=i') :
  Qd0 P o [(x,.ref n m j i)] [(n,.own m xs)] (.ref n m j i') []:=Qc6 fun X φ a w hrd hbl=>by
 obtain⟨b,hb,hown⟩:=hbl (n,.own m xs) (by simp)
 have hx:a.eval x=_:=Qs5 (hrd (x,.ref n m j i) (by simp)) hb
 refine⟨.pointer (some ⟨b,j*m+i+fl.offset,none⟩),?_,?_⟩
 ·simp only[execOp,h,hx,Xav,Qy8 ht hf hft hi hn,Xao]
  rfl
 refine .ref _ _ _ _ _ (by rw[hb];simp) fun b' hb'=>?_
 rw[hb] at hb'
 cases hb'
 rw[<-hi',Xeg]
def Qwo {x:Operand}{t ft:TypeId}{f:Nat}{fs:Array Field}{fl:Field}{g:Bool}{sz i i':Nat}{c:List AV}(h:o.op=.fieldAddr t x f) (ht:P.underlying t=some (.struct fs)) (hf:fs[f]? = some fl) (hft:fl.type=ft) (hi:TI P ft g sz) (hn:sz≠0) (hi':i+fl.offset=i') :
  Qd0 P o [(x,.dptr c i)] [] (.dptr c i') []:=Qc6 fun X φ a w hrd _=>by
 have hx:=hrd (x,.dptr c i) (by simp)
 dsimp only at hx
 cases hv:a.eval x with
 |pointer A=>
  rw[hv] at hx
  cases hx with
  |dptr _ _ b of g' hc hrel=>
   refine⟨.pointer (some ⟨b,of+i+fl.offset,none⟩),?_,?_⟩
   ·simp only[execOp,h,hv,Xav,Qy8 ht hf hft hi hn,Xao]
    rfl
   subst hi'
   rw[Xeg]
   exact .dptr c _ b of g' hc hrel
 |_=>rw[hv] at hx;cases hx
end
end
section
section
variable {P : Program} {o : Oper} {X : Nat -> Nat -> Prop} {φ : Nat -> FSlot} {w : World} {r : AV}
def Q0a:AV->Option (Nat×List (List AV))
 |.dat m xs=>some (m,xs)
 |.acc _ _ m xs=>some (m,xs)
 |_=>none
def Qs6 {v:AV}{u:Value}{m:Nat}{xs:List (List AV)}(h:RelV X φ w v u) (hv:Q0a v=some (m,xs)):∃A len cap g,u=.slice A len cap/\DatOK X φ w m xs A len cap g/\∀j x,xs[j]? = some x->∀i a,x[i]? = some a->RelV X φ w a (g j i):=by
 cases h with
 |dat _ _ A len cap g ok hr=>cases hv;exact⟨A,len,cap,g,rfl,ok,hr⟩
 |acc _ _ _ _ A len cap g ok hr _ _=>cases hv;exact⟨A,len,cap,g,rfl,ok,hr⟩
 |_=>cases hv
def DatOK.elem {m:Nat}{xs:List (List AV)}{A:Option Addr}{len cap:Nat}{g:Nat->Nat->Value}(ok:DatOK X φ w m xs A len cap g) (hr:∀j x,xs[j]? = some x->∀i a,x[i]? = some a->RelV X φ w a (g j i)) {j:Nat}{c:List AV}(hj:xs[j]? = some c) :
  ∃b of,A=some ⟨b,of,none⟩/\RelV X φ w (.dptr c 0) (.pointer (some ⟨b,of+j*m,none⟩)):=by
 have hne:xs≠[]:=fun e=>by rw[e] at hj;cases hj
 obtain⟨b,of,hA,hc⟩:=ok.hcells hne
 have hm:=ok.hsize c (Xac hj)
 refine⟨b,of,hA,?_⟩
 have:=RelV.dptr (X:=X) (φ:=φ) (w:=w) c 0 b (of+j*m) (g j) (fun k hk=>hc j c hj k (by omega)) (hr j c hj)
 simpa using this
def Quk {t e:TypeId}{gg:Bool}{m:Nat}(ht:P.underlying t=some (.slice e)) (he:TI P e gg m) (b of len cap:Nat) (k:IntKind) (i:Int) (h0:0<=i) (h1:i<len) (w:World) :
  (Instr.indexAt t (.slice (some ⟨b,of,none⟩) len cap) (.int k i)).run P w=.ok (.pointer (some ⟨b,of+i.toNat*m,none⟩)) w:=by
 simp[Instr.indexAt,Xa8 ht,asIntOf,h0,h1,he.size,Xfa]
def Zd1 {x y:Operand}{t t' e:TypeId}{gg:Bool}{m m':Nat}{v:AV}{xs:List (List AV)}{k:IntKind}{i:Int}{c:List AV}(h:o.op=.indexAddr t x y) (ht:P.underlying t=some (.slice e)) (he:TI P e gg m) (hv:Q0a v=some (m',xs)) (hm:m'=m) (h0:0<=i) (hi:xs[i.toNat]? = some c) (ht':t'=t) :
  Qd0 P o [(x,v),(y,.lit (.int k i))] [] (.dptr c 0) []:=Qc6 fun X φ a w hrd _=>by
 subst hm ht'
 obtain⟨A,len,cap,g,hx,ok,hr⟩:=Qs6 (hrd (x,v) (by simp)) hv
 dsimp only at hx
 have hy:a.eval y=.int k i:=Qd1 (hrd (y,.lit (.int k i)) (by simp))
 obtain⟨b,of,rfl,hp⟩:=ok.elem hr hi
 have hlt:=(Xad.1 hi).1
 refine⟨_,?_,hp⟩
 simp only[execOp,h,hx,hy,Xav,Quk ht he b of len cap k i h0 (by have:=ok.hlen;omega),Xao]
 rfl
def Zd0 {x y:Operand}{t e:TypeId}{gg:Bool}{m n j j' len:Nat}{xs:List (List AV)}{k:IntKind}{i:Int}(h:o.op=.indexAddr t x y) (ht:P.underlying t=some (.slice e)) (he:TI P e gg m) (h0:0<=i) (hi:i.toNat<len) (hj:j+i.toNat=j') :
  Qd0 P o [(x,.own n m j len),(y,.lit (.int k i))] [(n,.own m xs)] (.ref n m j' 0) []:=Qc6 fun X φ a w hrd hbl=>by
 obtain⟨b,hb,hown⟩:=hbl (n,.own m xs) (by simp)
 obtain⟨cap,hc,hcm,hx⟩:=Q76 (hrd (x,.own n m j len) (by simp)) hb
 dsimp only at hx
 have hy:a.eval y=.int k i:=Qd1 (hrd (y,.lit (.int k i)) (by simp))
 refine⟨_,?_,.ref _ _ _ _ (some ⟨b,j*m+i.toNat*m,none⟩) (by rw[hb];simp) fun b' hb'=>?_⟩
 ·simp only[execOp,h,hx,hy,Xav,Quk ht he b (j*m) len cap k i h0 (by omega),Xao]
  rfl
 rw[hb] at hb'
 cases hb'
 rw[<-hj,Xcu,Xdq]
def Qex {x y:Operand}{t e:TypeId}{gg:Bool}{sz len n m j i i':Nat}{xs:List (List AV)}{k:IntKind}{q:Int}(h:o.op=.indexAddr t x y) (ht:P.underlying t=some (.array len e)) (he:TI P e gg sz) (h0:0<=q) (hq:q.toNat<len) (hi:i+q.toNat*sz=i') :
  Qd0 P o [(x,.ref n m j i),(y,.lit (.int k q))] [(n,.own m xs)] (.ref n m j i') []:=Qc6 fun X φ a w hrd hbl=>by
 obtain⟨b,hb,hown⟩:=hbl (n,.own m xs) (by simp)
 have hx:a.eval x=_:=Qs5 (hrd (x,.ref n m j i) (by simp)) hb
 have hy:a.eval y=.int k q:=Qd1 (hrd (y,.lit (.int k q)) (by simp))
 refine⟨_,?_,.ref _ _ _ _ (some ⟨b,j*m+i+q.toNat*sz,none⟩) (by rw[hb];simp) fun b' hb'=>?_⟩
 ·have h1:q<(len:Int):=by omega
  simp[execOp,h,hx,hy,Instr.indexAt,Xa8 ht,asIntOf,Instr.sureAddr,h0,h1,he.size,Xfa]
 rw[hb] at hb'
 cases hb'
 rw[<-hi,Xeg]
def lenA:AV->Option Nat
 |.dat _ xs=>some xs.length
 |.acc _ _ _ xs=>some xs.length
 |.own _ _ _ len=>some len
 |.gro _ _ _ len=>some len
 |.row _ _ _ _ len=>some len
 |.lit (.slice _ len _)=>some len
 |_=>none
def Zrm {v:AV}{u:Value}{n:Nat}(h:RelV X φ w v u) (hv:lenA v=some n):∃A cap,u=.slice A n cap:=by
 cases h with
 |dat _ _ A len cap g ok hr=>cases hv;exact⟨A,cap,by rw[ok.hlen]⟩
 |acc _ _ _ _ A len cap g ok hr _ _=>cases hv;exact⟨A,cap,by rw[ok.hlen]⟩
 |own _ _ _ _ A cap=>cases hv;exact⟨A,cap,rfl⟩
 |gro _ _ _ _ A cap=>cases hv;exact⟨A,cap,rfl⟩
 |row _ _ _ _ _ A cap=>cases hv;exact⟨A,cap,rfl⟩
 |lit=>cases u with
  |slice A l c=>cases hv;exact⟨A,c,rfl⟩
  |_=>cases hv
 |_=>cases hv
def Q6o {x:Operand}{t e:TypeId}{v:AV}{n:Nat}(h:o.op=.call { callee:=.builtin .len,args := #[x],argTypes := #[t] }) (ht:P.underlying t=some (.slice e)) (hv:lenA v=some n):Qd0 P o [(x,v)] [] (.lit (.int .i64 (n:Int))) []:=Qc6 fun X φ a w hrd _=>by
 obtain⟨A,cap,hx⟩:=Zrm (hrd (x,v) (by simp)) hv
 dsimp only at hx
 exact⟨_,by simp[execOp,h,hx,resolve,invoke,builtin,Builtin.len_,Xa8 ht,goInt],.lit _⟩
def Qyd (len cap:Nat) (lo hi:Option Value) (l h:Int) (hl:match lo with |none=>l=0 |some v=>∃k,v=.int k l) (hh:match hi with |none=>h=len |some v=>∃k,v=.int k h) (h0:0<=l) (h1:l<=h) (h2:h<=cap) (w:World) :
  (Instr.sliceBounds true len cap lo hi none).run P w=.ok (l.toNat,h.toNat,cap) w:=by
 have h4:0<=h:=by omega
 have h5:l<=((h.toNat:Nat):Int):=by omega
 have h6:l<=max h 0:=by omega
 cases lo with
 |none=>
  subst hl
  cases hi with
  |none=>subst hh;simp[Instr.sliceBounds]
  |some v=>obtain⟨k,rfl⟩:=hh;simp[Instr.sliceBounds,Instr.sliceBound,asIntOf,h4,h2]
 |some u=>
  obtain⟨k',rfl⟩:=hl
  cases hi with
  |none=>subst hh;simp[Instr.sliceBounds,Instr.sliceBound,asIntOf,h0,h1]
  |some v=>obtain⟨k,rfl⟩:=hh;simp[Instr.sliceBounds,Instr.sliceBound,asIntOf,h4,h2,h0,h6]
def Zgz {t e:TypeId}{gg:Bool}{m:Nat}(ht:P.underlying t=some (.slice e)) (he:TI P e gg m) (A:Option Addr) (len cap:Nat) (lo hi:Option Value) (l h:Int) (hl:match lo with |none=>l=0 |some v=>∃k,v=.int k l) (hh:match hi with |none=>h=len |some v=>∃k,v=.int k h) (h0:0<=l) (h1:l<=h) (h2:h<=cap) (w:World) :
  (Instr.sliceAt t (.slice A len cap) lo hi none).run P w=.ok (.slice (if cap=l.toNat then A else A.map (·.add (l.toNat*m))) (h.toNat-l.toNat) (cap-l.toNat)) w:=by
 simp[Instr.sliceAt,Instr.slice,Xa8 ht,Qyd len cap lo hi l h hl hh h0 h1 h2,he.size]
def Za9 {a:Act}{lo:Option Operand}{l:Int}{k:IntKind}{d:Int}(h:∀y,lo=some y->a.eval y=.int k l) (hn:lo=none->l=d):match lo.map a.eval with |none=>l=d |some v=>∃k,v=.int k l:=by
 cases lo with
 |none=>exact hn rfl
 |some y=>exact⟨k,h y rfl⟩
def Q3r:Option Operand->IntKind->Int->List (Operand×AV)
 |none,_,_=>[]
 |some y,k,i=>[(y,.lit (.int k i))]
def Qwm {x:Operand}{lo hi:Option Operand}{t e:TypeId}{gg:Bool}{m:Nat}{v:AV}{xs ys:List (List AV)}{k k':IntKind}{l hh:Int}(h:o.op=.slice t x lo hi none) (ht:P.underlying t=some (.slice e)) (he:TI P e gg m) (hv:Q0a v=some (m,xs))
  (hl:lo=none->l=0) (hhi:hi=none->hh=xs.length) (h0:0<=l) (h1:l<=hh) (h2:hh<=xs.length) (hys:(xs.drop l.toNat).take (hh.toNat-l.toNat)=ys) :
  Qd0 P o ((x,v)::(Q3r lo k l++Q3r hi k' hh)) [] (.dat m ys) []:=Qc6 fun X φ a w hrd _=>by
 obtain⟨A,len,cap,g,hx,ok,hr⟩:=Qs6 (hrd (x,v) (by simp)) hv
 dsimp only at hx
 have e1:=ok.hlen
 have e2:=ok.hcap
 have hlo:match lo.map a.eval with |none=>l=0 |some v=>∃k,v=.int k l:=Za9 (k:=k) (fun y hy=>by subst hy;exact Qd1 (hrd (y,.lit (.int k l)) (by simp[Q3r]))) hl
 have hhi':match hi.map a.eval with |none=>hh=(len:Int) |some v=>∃k,v=.int k hh:=Za9 (k:=k') (fun y hy=>by subst hy;exact Qd1 (hrd (y,.lit (.int k' hh)) (by simp[Q3r]))) (fun e=>by rw[hhi e,e1])
 have hlen:ys.length=hh.toNat-l.toNat:=by subst hys;simp;omega
 have hget:∀j y,ys[j]? = some y->xs[l.toNat+j]? = some y:=fun j y hj=>by
  subst hys
  rw[Xbi] at hj
  split at hj
  ·rwa [Xch] at hj
  cases hj
 refine⟨_,?_,RelV.dat m ys (if cap=l.toNat then A else A.map (·.add (l.toNat*m))) (hh.toNat-l.toNat) (cap-l.toNat) (fun j i=>g (l.toNat+j) i) ⟨hlen.symm,by omega,by have:=ok.hmost;omega,fun y hy=>?_,fun hne=>?_⟩ (fun j y hj i u hu=>hr _ y (hget j y hj) i u hu)⟩
 ·simp only[execOp,h,hx,Xav,Xh0,Zgz ht he A len cap _ _ l hh hlo hhi' h0 h1 (by omega),Xao]
  rfl
 ·obtain⟨j,hj,rfl⟩:=Xdz hy
  exact ok.hsize _ (Xac (hget j _ (Xab hj)))
 have hpos:0<ys.length:=Xc4.2 hne
 have hxne:xs≠[]:=fun e=>by
  rw[e] at h2
  simp at h2
  omega
 obtain⟨b,of,hA,hc⟩:=ok.hcells hxne
 refine⟨b,of+l.toNat*m,?_,fun j y hj i hi=>?_⟩
 ·rw[Xat (by omega),hA]
  simp[Xfa]
 have:=hc _ y (hget j y hj) i hi
 rw[Xcu,<-Xeg] at this
 exact this
def upd (φ:Nat->FSlot) (n:Nat) (s:FSlot):Nat->FSlot:=fun k=>if k=n then s else φ k
def Evo.alloc {n:Nat}(hn:φ n=.unused) (hlt:∀n b,(φ n).lies b->b<w.heap.size) (ob:Obj):Evo X φ w (upd φ n (.own w.heap.size)) (w.alloc ob):=by
 have ne:∀k,φ k≠.unused->k≠n:=fun k hk e=>hk (e▸hn)
 refine⟨rfl,rfl,rfl,by simp,fun b hb _=>Xbk w ob hb,fun b ⟨k,hk⟩=>?_,fun b off hd=>⟨⟨by simp;have:=hd.lt;omega,hd.hid,fun k hk=>?_,fun k L hk=>?_,fun k Y hk=>?_,fun k bs q hk=>?_⟩,Xcd (Xbk w ob hd.lt)⟩,fun k hk=>?_,fun k b hk=>?_,fun k t hk=>?_,fun k Y hk=>?_,fun k bs hk=>?_,fun k b hk _=>?_⟩
 ·unfold upd at hk
  split at hk
  ·obtain rfl:=Qir hk
   exact .inr (Xay _)
  exact .inl ⟨k,hk⟩
 ·unfold upd at hk
  split at hk
  ·cases hk
   exact absurd hd.lt (Xdl _)
  exact hd.own k hk
 ·unfold upd at hk
  split at hk
  ·cases hk
  exact hd.tok k L hk
 ·unfold upd at hk
  split at hk
  ·cases hk
  exact hd.far k Y hk
 ·unfold upd at hk
  split at hk
  ·cases hk
  exact hd.mat k bs q hk
 ·rw[upd,Xat (ne k (by rw[hk];simp))];exact hk
 ·rw[upd,Xat (ne k (by rw[hk];simp))];exact .inl hk
 ·rw[upd,Xat (ne k (by rw[hk];simp))]
  exact .inr ⟨hk,fun b L e=>Xbk w ob (hlt k b (.tok (L:=L) (by rw[hk,e])))⟩
 ·rw[upd,Xat (ne k (by rw[hk];simp))];exact .inr ⟨Y,hk⟩
 ·rw[upd,Xat (ne k (by rw[hk];simp))];exact .inr ⟨bs,hk,.refl bs⟩
 exact .same (Xbk w ob (hlt k b (.own hk)))
def Evo.alloc0 (hlt:∀n b,(φ n).lies b->b<w.heap.size) (ob:Obj):Evo X φ w φ (w.alloc ob):=
 ⟨rfl,rfl,rfl,by simp,fun b hb _=>Xbk w ob hb,fun _ h=>.inl h,fun b _ hd=>⟨⟨by simp;have:=hd.lt;omega,hd.hid,hd.own,hd.tok,hd.far,hd.mat⟩,Xcd (Xbk w ob hd.lt)⟩,fun _ h=>h,fun _ _ h=>.inl h,
  fun k _ hk=>.inr ⟨hk,fun b L e=>Xbk w ob (hlt k b (.tok (L:=L) (by rw[hk,e])))⟩,fun _ Y h=>.inr ⟨Y,h⟩,fun _ bs h=>.inr ⟨bs,h,.refl bs⟩,fun n b hn _=>.same (Xbk w ob (hlt n b (.own hn)))⟩
def Qwb {n:Nat}(hd:Qdu φ) (hlt:∀n b,(φ n).lies b->b<w.heap.size):Qdu (upd φ n (.own w.heap.size)):=by
 intro k k' b hk hk'
 unfold upd at hk hk'
 split at hk<;>split at hk'
 ·simp_all
 ·obtain rfl:=Qir hk
  have:=hlt _ _ hk'
  omega
 ·obtain rfl:=Qir hk'
  have:=hlt _ _ hk
  omega
 exact hd k k' b hk hk'
def Qzq {rd:List (Operand×AV)}{n m:Nat}{xs:List (List AV)}{r:AV}
  (h:∀(X:Nat->Nat->Prop) (φ:Nat->FSlot) (a:Act) (w:World),(∀p∈rd,RelV X φ w p.2 (a.eval p.1))->∃v cs ty,(execOp a.eval o).run P w=.ok (.value v) (w.alloc (.cells cs ty))/\xs.length*m<=cs.size/\(∀x∈xs,x.length=m) /\
   (∀j x,xs[j]? = some x->∀i u,x[i]? = some u->RelV X φ w u (cs.getD (j*m+i) undef))/\(∀φ' w',φ' n=.own w.heap.size->RelV X φ' w' r v)):Qd0 P o rd [(n,.unused)] r [(n,.own m xs)]:=by
 intro X φ a w hrd hbl hd hX hlt next Q k
 obtain⟨v,cs,ty,hrun,h1,h2,h3,h4⟩:=h X φ a w hrd
 have hn:φ n=.unused:=hbl (n,.unused) (by simp)
 have evo:=Evo.alloc (X:=X) hn hlt (.cells cs ty)
 refine Qkd hrun ?_
 refine k v (upd φ n (.own w.heap.size)) _ (h4 _ _ (by simp[upd])) (fun p hp=>?_) (Qwb hd hlt) (fun k hk=>?_) (fun b hb _=>Xbk w _ hb) evo
 ·simp at hp
  subst hp
  refine⟨w.heap.size,by simp[upd],⟨cs,ty,Xel w _,h1,h2,fun j x hj i u hu=>(h3 j x hj i u hu).evo evo⟩,fun off hx=>?_⟩
  exact absurd (hX _ _ hx) (Xdl _)
 simp at hk
 simp[upd,hk]
def TZ (P:Program) (t:TypeId) (zs:List Value):Prop:=∃i z,P.info? t=some i/\i.zero=some z/\z.cells.toList=zs
def TZ.run {t:TypeId}{zs:List Value}(h:TZ P t zs) (w:World):∃z,(zeroValue t).run P w=.ok z w/\z.cells.toList=zs:=by
 obtain⟨i,z,h1,h2,h3⟩:=h
 exact⟨z,by simp[zeroValue,typeInfo,h1,h2],h3⟩
def Q9e {t:TypeId}{zs:List Value}{n m:Nat}(h:o.op=.alloc t) (hz:TZ P t zs) (hm:zs.length=m):Qd0 P o [] [(n,.unused)] (.ref n m 0 0) [(n,.own m [zs.map AV.lit])]:=Qzq fun X φ a w _=>by
 obtain⟨z,hz1,hz2⟩:=hz.run w
 have hsz:z.cells.size=m:=by rw[<-hm,<-hz2];simp
 refine⟨.pointer (some ⟨w.heap.size,0,none⟩),z.cells,t,?_,by simp[hsz],by simp[hm],fun j x hj i u hu=>?_,fun φ' w' hf=>.ref _ _ _ _ _ (by rw[hf];simp) fun b hb=>?_⟩
 ·simp only[execOp,h,Instr.alloc,Xav,hz1,Xao,newVar,newRow,newObj]
  rfl
 ·cases j with
  |zero=>
   simp at hj
   subst hj
   rw[Xaw] at hu
   cases hzi:zs[i]? with
   |none=>rw[hzi] at hu;cases hu
   |some c=>
    rw[hzi] at hu
    cases hu
    have:z.cells.getD (0*m+i) undef=c:=by
     have h5:z.cells.toList[i]? = some c:=by rw[hz2];exact hzi
     rw[Xaf]
     simp only[Xgs,Xar]
     rw[<-Xb5,h5];rfl
    rw[this]
    exact .lit c
  |succ j=>simp at hj
 rw[hf] at hb
 cases hb
 simp
def Zkb {t:TypeId}{x:Operand}{v:AV}{n m:Nat}{c:List AV}(h:o.op=.box t x) (h1:(stA v).all AV.one=true) (hc:stA v=c) (hm:c.length=m):Qd0 P o [(x,v)] [(n,.unused)] (.ref n m 0 0) [(n,.own m [c])]:=Qzq fun X φ a w hrd=>by
 obtain⟨h2,_,h3⟩:=Q2o (hrd (x,v) (by simp)) h1
 dsimp only at h2 h3
 rw[hc] at h2 h3
 refine⟨.pointer (some ⟨w.heap.size,0,none⟩),(a.eval x).cells,t,?_,by simp[h2,hm],by simp[hm],fun j z hj i u hu=>?_,fun φ' w' hf=>.ref _ _ _ _ _ (by rw[hf];simp) fun b hb=>?_⟩
 ·simp only[execOp,h,Instr.box,Xav,newVar,newRow,newObj]
  rfl
 ·cases j with
  |zero=>
   simp at hj
   subst hj
   have:=h3 i u hu
   rw[Xaj,Xb5] at this
   rw[Xaf]
   simpa using this
  |succ j=>simp at hj
 rw[hf] at hb
 cases hb
 simp
end
end
section
section
variable {P : Program} {o : Oper} {X : Nat -> Nat -> Prop} {φ : Nat -> FSlot} {w : World} {r : AV}
structure TE (P:Program) (e:TypeId) (m bytes:Nat):Prop where
 inf:∃i z,P.info? e=some i/\i.zero=some z/\i.size=m/\i.bytes=bytes/\z.cells.size=m
 pos:0<m
def Qvz {t ty e:TypeId}{m bytes:Nat}(ht:P.underlying t=some (.slice e)) (he:TE P e m bytes) (sv:Value) (n:Nat) (olds:List Value) (hol:olds.length=n*m)
  (hs:((∃A,sv=.slice A 0 0)/\n=0)\/∃g cap cur,sv=.slice (some ⟨g,0,none⟩) n cap/\w.heap[g]? = some (.cells cur e (0,0))/\cur.size=cap*m/\n<=cap/\cap<=maxLen/\cur.toList.take (n*m)=olds)
  (a:Addr) (k c:Nat) (news:List Value) (hl:news.length=k*m) (hnews:∀(j:Nat) u,news[j]? = some u->w.cell? (a.add j)=some u) (h1:∀u∈news,u.oneCell'=true) (hk:0<k) (hb:(n+k)*bytes<=140737488355328) (h63:n+k<=maxLen) :
  ∃b' cap' cur' w',(Builtin.append_ #[t,t] ty #[sv,.slice (some a) k c]).run P w=.ok (.slice (some ⟨b',0,none⟩) (n+k) cap') w'/\cur'.size=cap'*m/\n+k<=cap'/\cap'<=maxLen/\cur'.toList.take ((n+k)*m)=olds++news /\
   ((∃cap,sv=.slice (some ⟨b',0,none⟩) n cap/\n+k<=cap/\w'=w.setRow b' cur')\/(b'=w.heap.size/\w'=w.drew.alloc (.cells cur' e))):=by
 obtain⟨i,z,hi,hz,rfl,rfl,hzs⟩:=he.inf
 have hsmall:n+k<=9223372036854775807:=by simp only[maxLen] at h63;omega
 have hlen:(olds++news).length=(n+k)*i.size:=by rw[Xb1,hol,hl,Xcu]
 have grown:∀old:Nat,old<n+k->(olds.toArray++news.toArray++Builtin.zeroCells z.cells (grownCap w (n+k) old e-(n+k))).size=grownCap w (n+k) old e*i.size /\
   (olds.toArray++news.toArray++Builtin.zeroCells z.cells (grownCap w (n+k) old e-(n+k))).toList.take ((n+k)*i.size)=olds++news:=by
  intro old _
  have hge:=Xia w (n+k) old e
  refine⟨?_,?_⟩
  ·simp only[Array.size_append,List.size_toArray,size_zeroCells,hzs,hol,hl,<-Xcu]
   congr 1
   omega
  simp only[Array.toList_append,Xan]
  rw[<-Xan,<-hlen]
  exact List.take_left
 rcases hs with ⟨⟨A,rfl⟩,rfl⟩ |⟨g,cap,cur,rfl,hg,hcs,hnc,hcm,htake⟩
 ·have hx:olds=[]:=Xau (by simpa using hol)
  subst hx
  cases A with
  |some ad=>
   have hr:=run_append_grow (P:=P) w t ty e i z ht hi hz ad 0 0 [] (by simp) (by simp) a k c news hl hnews (by omega) (by omega) (growslice_fits (by omega) hb)
   obtain⟨g1,g2⟩:=grown 0 (by omega)
   exact⟨_,_,_,_,hr,g1,Xia w _ _ e,Xhu w _ _ e h63,g2,.inr ⟨rfl,rfl⟩⟩
  |none=>
   have hr:=run_append_nil (P:=P) w t ty e i z ht hi hz a k c news hl hnews hk (by omega) (by have hb':=hb;simp only[Xar] at hb';omega)
   obtain⟨g1,g2⟩:=grown 0 (by omega)
   simp only[Xar,Xa9,Array.empty_append] at g1 g2 hr ⊢
   exact⟨_,_,_,_,hr,g1,Xia w k 0 e,Xhu w k 0 e (by simpa using h63),g2,.inr ⟨rfl,rfl⟩⟩
 by_cases hroom:n+k<=cap
 ·have hfit:n*i.size+news.length<=cur.size:=by rw[hl,hcs,<-Xcu];exact Xbl _ hroom
  have hr:=run_append_room (P:=P) w t ty e i ht hi g n cap cur hg a k c news hl hnews h1 hroom hfit
  refine⟨_,_,_,_,hr,?_,hroom,hcm,?_,.inl ⟨cap,rfl,hroom,rfl⟩⟩
  ·simp only[List.size_toArray,Xb1,Xdk,Xfm,Array.length_toList]
   omega
  rw[htake,<-hlen]
  exact List.take_left
 have holds:∀(j:Nat) u,olds[j]? = some u->w.cell? ((⟨g,0,none⟩:Addr).add j)=some u:=fun j u hu=>by
  rw[Xfa,Xar,Xe3 w g j cur e (0,0) hg]
  rw[<-htake,Xbi] at hu
  split at hu
  ·simpa using hu
  cases hu
 have hr:=run_append_grow (P:=P) w t ty e i z ht hi hz ⟨g,0,none⟩ n cap olds hol holds a k c news hl hnews (by omega) (by omega) (growslice_fits (by omega) hb)
 obtain⟨g1,g2⟩:=grown cap (by omega)
 exact⟨_,_,_,_,hr,g1,Xia w _ _ e,Xhu w _ _ e h63,g2,.inr ⟨rfl,rfl⟩⟩
def Qzg {m:Nat}{xs:List (List AV)}{A:Option Addr}{len cap:Nat}{g:Nat->Nat->Value}(ok:DatOK X φ w m xs A len cap g) (hr:∀j x,xs[j]? = some x->∀i a,x[i]? = some a->RelV X φ w a (g j i)) (hm:0<m) (hne:xs≠[]) (h1:(xs.all fun x=>x.all AV.one)=true) :
  ∃(ad:Addr) (news:List Value),A=some ad/\news.length=len*m/\(∀(j:Nat) u,news[j]? = some u->w.cell? (ad.add j)=some u)/\(∀u∈news,u.oneCell'=true)/\∀j i,j<xs.length->i<m->news[j*m+i]? = some (g j i):=by
 obtain⟨b,of,hA,hc⟩:=ok.hcells hne
 have key:∀k,k<xs.length*m->k/m<xs.length/\k % m<m/\k=k/m*m+k % m:=fun k hk=>⟨(Nat.div_lt_iff_lt_mul hm).2 hk,Nat.mod_lt _ hm,by rw[Xhv];exact(Nat.div_add_mod k m).symm⟩
 refine⟨⟨b,of,none⟩,(List.range (xs.length*m)).map fun k=>g (k/m) (k % m),hA,by simp[ok.hlen],fun j u hj=>?_,fun u hu=>?_,fun j i hj hi=>?_⟩
 ·simp only[Xaw] at hj
  cases hjr:(List.range (xs.length*m))[j]? with
  |none=>rw[hjr] at hj;cases hj
  |some q=>
   rw[hjr] at hj
   cases hj
   have hlt:=(Xad.1 hjr).1
   simp only[Xeu] at hlt
   have:q=j:=by
    rw[Xfx hlt] at hjr
    cases hjr;rfl
   subst this
   obtain⟨k1,k2,k3⟩:=key q hlt
   have:=(hc (q/m) _ (Xab k1) (q % m) k2).2
   rw[Xfa]
   rw[Xeg,<-k3] at this
   exact this
 ·simp only[Xba,Xd7] at hu
  obtain⟨k,hk,rfl⟩:=hu
  obtain⟨k1,k2,_⟩:=key k hk
  have hx:=Xa6.1 h1 _ (Xb2 k1)
  have hsz:=ok.hsize _ (Xb2 k1)
  have hi':k % m<xs[k/m].length:=by omega
  exact AV.one_spec (hr _ _ (Xab k1) _ _ (Xab hi')) (Xa6.1 hx _ (Xb2 hi'))
 have hlt:j*m+i<xs.length*m:=Qft hj hi
 rw[Xaw,Xfx hlt]
 have e1:(j*m+i)/m=j:=by
  rw[Xhv,Nat.mul_add_div hm]
  simp[Nat.div_eq_of_lt hi]
 have e2:(j*m+i) % m=i:=by
  rw[Xhv,Nat.mul_add_mod]
  exact Nat.mod_eq_of_lt hi
 simp[e1,e2]
def Zd6 {n0:Option Nat}{n b' L':Nat}{e:TypeId}{cur':Array Value}{w':World}(hd:Qdu φ) (hlt:∀n b,(φ n).lies b->b<w.heap.size) (hn:φ n=.unused)
  (hc:(∃(k L:Nat) (cur:Array Value),n0=some k/\φ k=.tok (some (b',L))/\w.heap[b']? = some (.cells cur e (0,0))/\L<=L'/\w'=w.setRow b' cur'/\∀off,off<L->cur'[off]? = cur[off]?)\/(b'=w.heap.size/\w'=w.drew.alloc (.cells cur' e)/\∀k,n0=some k->∃t,φ k=.tok t)) :
  Evo X φ w (fun k=>if k=n then .tok (some (b',L')) else if some k=n0 then .dead else φ k) w'/\Qdu (fun k=>if k=n then FSlot.tok (some (b',L')) else if some k=n0 then .dead else φ k):=by
 have ne:∀k,φ k≠.unused->k≠n:=fun k hk e=>hk (e▸hn)
 have only:∀k,(φ k).lies b'->some k=n0\/k=n:=fun k hk=>by
  rcases hc with ⟨k0,L,cur,rfl,h1,_⟩ |⟨rfl,_⟩
  ·exact .inl (Xek some (hd k k0 b' hk (.tok h1)))
  exact absurd (hlt k _ hk) (Xdl _)
 have dead0:∀k,some k=n0->∃t,φ k=.tok t:=fun k hk=>by
  rcases hc with ⟨k0,L,cur,h0,h1,_⟩ |⟨_,_,h2⟩
  ·rw[h0] at hk;cases hk;exact⟨_,h1⟩
  exact h2 k hk.symm
 have hother:∀b,b≠b'->b<w.heap.size->w'.heap[b]? = w.heap[b]? := fun b hb hbl=>by
  rcases hc with ⟨_,_,_,_,_,_,_,rfl,_⟩ |⟨_,rfl,_⟩
  ·exact Xea w b' b cur' hb
  exact Xbk w.drew _ hbl
 have hsize:w.heap.size<=w'.heap.size:=by
  rcases hc with ⟨_,_,_,_,_,_,_,rfl,_⟩ |⟨_,rfl,_⟩<;>simp
 refine⟨⟨?_,?_,?_,hsize,fun b hb hnb=>?_,fun b ⟨k,hk⟩=>?_,fun b off hdat=>?_,fun k hk=>?_,fun k b hk=>?_,fun k t hk=>?_,fun k Y hk=>?_,fun k bs hk=>?_,fun k b hk _=>?_⟩,fun k k' b hk hk'=>?_⟩
 ·rcases hc with ⟨_,_,_,_,_,_,_,rfl,_⟩ |⟨_,rfl,_⟩<;>rfl
 ·rcases hc with ⟨_,_,_,_,_,_,_,rfl,_⟩ |⟨_,rfl,_⟩<;>rfl
 ·rcases hc with ⟨_,_,_,_,_,_,_,rfl,_⟩ |⟨_,rfl,_⟩<;>rfl
 ·refine hother b (fun e=>?_) hb
  rcases hc with ⟨k0,L,cur,_,h1,_⟩ |⟨h1,_⟩
  ·exact hnb ⟨k0,.tok (L:=L) (by rw[h1,e])⟩
  omega
 ·dsimp only at hk
  split at hk
  ·obtain⟨L,e⟩:=Qqx hk
   cases e
   rcases hc with ⟨k0,L,cur,_,h1,_⟩ |⟨h1,_⟩
   ·exact .inl ⟨k0,.tok h1⟩
   exact .inr (by omega)
  split at hk
  ·exact(Qba hk).elim
  exact .inl ⟨k,hk⟩
 ·refine⟨⟨Xbc hdat.lt hsize,hdat.hid,fun k hk=>?_,fun k L hk=>?_,fun k Y hk=>?_,fun k bs q hk=>?_⟩,?_⟩
  ·split at hk
   ·cases hk
   split at hk
   ·cases hk
   exact hdat.own k hk
  ·split at hk
   ·cases hk
    rcases hc with ⟨k0,L,cur,_,h1,_,h3,_⟩ |⟨h1,_⟩
    ·exact Xbc (hdat.tok k0 L h1) h3
    exact absurd hdat.lt (by omega)
   split at hk
   ·cases hk
   exact hdat.tok k L hk
  ·split at hk
   ·cases hk
   split at hk
   ·cases hk
   exact hdat.far k Y hk
  ·split at hk
   ·cases hk
   split at hk
   ·cases hk
   exact hdat.mat k bs q hk
  by_cases e:b=b'
  ·subst e
   rcases hc with ⟨k0,L,cur,_,h1,h2,h3,rfl,h4⟩ |⟨h1,_⟩
   ·have ho:=hdat.tok k0 L h1
    rw[Xe3 w b off cur _ _ h2,Xe3 _ b off cur' _ _ (Xgq w b cur cur' _ _ h2)]
    exact h4 off ho
   exact absurd hdat.lt (by omega)
  exact Xcd (hother b e hdat.lt)
 ·rw[Xat (ne k (by rw[hk];simp)),Xat (fun e=>by obtain⟨t,ht⟩:=dead0 k e;rw[hk] at ht;cases ht)]
  exact hk
 ·rw[Xat (ne k (by rw[hk];simp)),Xat (fun e=>by obtain⟨t,ht⟩:=dead0 k e;rw[hk] at ht;cases ht)]
  exact .inl hk
 ·rw[Xat (ne k (by rw[hk];simp))]
  by_cases e:some k=n0
  ·rw[Xaz e];exact .inl rfl
  rw[Xat e]
  refine .inr ⟨hk,fun b L ht=>?_⟩
  subst ht
  have hl:(φ k).lies b:=.tok hk
  refine hother b (fun e'=>?_) (hlt k b hl)
  subst e'
  rcases only k hl with h |h
  ·exact e h
  exact ne k (by rw[hk];simp) h
 ·rw[Xat (ne k (by rw[hk];simp)),Xat (fun e=>by obtain⟨t,ht⟩:=dead0 k e;rw[hk] at ht;cases ht)]
  exact .inr ⟨Y,hk⟩
 ·rw[Xat (ne k (by rw[hk];simp)),Xat (fun e=>by obtain⟨t,ht⟩:=dead0 k e;rw[hk] at ht;cases ht)]
  exact .inr ⟨bs,hk,.refl bs⟩
 ·have hl:(φ k).lies b:=.own hk
  refine .same (hother b (fun e'=>?_) (hlt k b hl))
  subst e'
  rcases only k hl with h |h
  ·obtain⟨t,ht⟩:=dead0 k h;rw[hk] at ht;cases ht
  exact ne k (by rw[hk];simp) h
 dsimp only at hk hk'
 split at hk<;>split at hk'
 ·simp_all
 ·obtain⟨L,e⟩:=Qqx hk
  cases e
  split at hk'
  ·exact(Qba hk').elim
  rcases only k' hk' with h |h<;>contradiction
 ·obtain⟨L,e⟩:=Qqx hk'
  cases e
  split at hk
  ·exact(Qba hk).elim
  rcases only k hk with h |h<;>contradiction
 split at hk
 ·exact(Qba hk).elim
 split at hk'
 ·exact(Qba hk').elim
 exact hd k k' b hk hk'
inductive Base (e:TypeId) (m:Nat):AV->List (List AV)->Option Nat->Prop where
 |nil:Base e m (.lit (.slice none 0 0)) [] none
 |acc (n:Nat) (xs:List (List AV)):Base e m (.acc n e m xs) xs (some n)
def Qzk:Option Nat->List (Nat×Slot)
 |none=>[]
 |some n=>[(n,.tok)]
def Qm1:Option Nat->List (Nat×Slot)
 |none=>[]
 |some n=>[(n,.dead)]
def Q6r {x y:Operand}{t e:TypeId}{m m' bytes:Nat}{v u:AV}{xs ys:List (List AV)}{n0:Option Nat}{n:Nat}(h:o.op=.call { callee:=.builtin .append,args := #[x,y],argTypes := #[t,t] }) (ht:P.underlying t=some (.slice e)) (he:TE P e m bytes)
  (hv:Base e m v xs n0) (hu:Q0a u=some (m',ys)) (hm':m'=m) (hne:ys≠[]) (h1:(ys.all fun y=>y.all AV.one)=true) (hb:(xs.length+ys.length)*bytes<=140737488355328) (h63:xs.length+ys.length<=maxLen) :
  Qd0 P o [(x,v),(y,u)] (Qzk n0++[(n,.unused)]) (.acc n e m (xs++ys)) (Qm1 n0++[(n,.tok)]):=by
 subst hm'
 intro X φ a w hrd hbl hd hX hlt next Q k
 have hn:φ n=.unused:=hbl (n,.unused) (by simp)
 have hpos:=he.pos
 obtain⟨A,len,cap,g,hy,ok,hr⟩:=Qs6 (hrd (y,u) (by simp)) hu
 dsimp only at hy
 obtain⟨ad,news,rfl,hnl,hnc,hn1,hng⟩:=Qzg ok hr hpos hne h1
 have elen:=ok.hlen
 subst elen
 have hx:=hrd (x,v) (by simp)
 dsimp only at hx
 obtain⟨olds,gx,hol,hog,hbase,hrx,hsz⟩:∃(olds:List Value) (gx:Nat->Nat->Value),olds.length=xs.length*m'/\(∀j i,j<xs.length->i<m'->olds[j*m'+i]? = some (gx j i)) /\
   ((n0=none/\xs=[]/\∃A,a.eval x=.slice A 0 0)\/∃k0,n0=some k0/\((φ k0=.tok none/\xs=[]/\∃A,a.eval x=.slice A 0 0)\/∃b cap cur,φ k0=.tok (some (b,xs.length*m'))/\a.eval x=.slice (some ⟨b,0,none⟩) xs.length cap/\w.heap[b]? = some (.cells cur e (0,0))/\cur.size=cap*m'/\xs.length<=cap/\cap<=maxLen/\cur.toList.take (xs.length*m')=olds/\∀off,¬X b off)) /\
   (∀j z,xs[j]? = some z->∀i c,z[i]? = some c->RelV X φ w c (gx j i))/\(∀z∈xs,z.length=m'):=by
  cases hv with
  |nil=>
   refine⟨[],fun _ _=>undef,by simp,by simp,.inl ⟨rfl,rfl,_,Qd1 hx⟩,by simp,by simp⟩
  |acc k0 xs=>
   obtain⟨T,hT,hT2⟩:=hbl (k0,.tok) (by simp[Qzk])
   cases hxe:a.eval x with
   |slice A len cap=>
    rw[hxe] at hx
    cases hx with
    |acc _ _ _ _ _ _ _ gx okx hrx hnx htip=>
     have tip:=htip T hT
     unfold Tip at tip
     cases T with
     |none=>
      obtain⟨rfl,rfl⟩:=tip
      have hxs:xs=[]:=Xau okx.hlen.symm
      subst hxs
      exact⟨[],gx,by simp,by simp,.inr ⟨k0,rfl,.inl ⟨hT,rfl,_,rfl⟩⟩,by simp,by simp⟩
     |some p=>
      obtain⟨b,L⟩:=p
      obtain⟨rfl,rfl,cur,hc1,hc2,hc3⟩:=tip
      have el:=okx.hlen
      subst el
      refine⟨cur.toList.take (xs.length*m'),gx,?_,fun j i hj hi=>?_,.inr ⟨k0,rfl,.inr ⟨b,cap,cur,hT,rfl,hc1,hc2,okx.hcap,hc3,rfl,(hT2 b _ rfl).2⟩⟩,hrx,okx.hsize⟩
      ·have:=Xbl m' okx.hcap
       simp;omega
      have hne':xs≠[]:=fun e=>by rw[e] at hj;simp at hj
      obtain⟨b2,o2,hA,hc⟩:=okx.hcells hne'
      cases hA
      have h4:=(hc j _ (Xab hj) i hi).2
      rw[Xar,Xe3 w b _ cur _ _ hc1] at h4
      rw[Xbi,Xaz (Qft hj hi)]
      simpa using h4
   |_=>rw[hxe] at hx;cases hx
 have hsv:((∃A,a.eval x=.slice A 0 0)/\xs.length=0)\/∃g cap cur,a.eval x=.slice (some ⟨g,0,none⟩) xs.length cap/\w.heap[g]? = some (.cells cur e (0,0))/\cur.size=cap*m'/\xs.length<=cap/\cap<=maxLen/\cur.toList.take (xs.length*m')=olds:=by
  rcases hbase with ⟨_,rfl,h3⟩ |⟨k0,_,⟨_,rfl,h3⟩ |⟨b,cap,cur,h2,h3,h4,h5,h6,h7,h8,_⟩⟩
  ·exact .inl ⟨h3,rfl⟩
  ·exact .inl ⟨h3,rfl⟩
  exact .inr ⟨b,cap,cur,h3,h4,h5,h6,h7,h8⟩
 obtain⟨b',cap',cur',w',hrun,c1,c2,c3,c4,c5⟩:=Qvz (P:=P) (ty:=o.type) ht he (a.eval x) xs.length olds hol hsv ad ys.length cap news hnl hnc hn1 (Xc4.2 hne) hb h63
 have hexec:(execOp a.eval o).run P w=.ok (.value (.slice (some ⟨b',0,none⟩) (xs.length+ys.length) cap')) w':=by
  simp only[execOp,h,resolve,invoke,builtin,Xav,Xcr,Xao,Xgo,Xax,Xbz,hy,hrun]
 have hcl:cur'.toList.length=cap'*m':=by simpa using c1
 have cget:∀off,off<(xs.length+ys.length)*m'->cur'[off]? = (olds++news)[off]? := fun off ho=>by
  rw[<-c4,Xbi,Xaz ho,Xb5]
 have hL:xs.length*m'<=(xs.length+ys.length)*m':=Xbl m' (by omega)
 have hcase:(∃(k L:Nat) (cur:Array Value),n0=some k/\φ k=.tok (some (b',L))/\w.heap[b']? = some (.cells cur e (0,0))/\L<=(xs.length+ys.length)*m'/\w'=w.setRow b' cur'/\∀off,off<L->cur'[off]? = cur[off]?)\/(b'=w.heap.size/\w'=w.drew.alloc (.cells cur' e)/\∀k,n0=some k->∃t,φ k=.tok t):=by
  rcases c5 with ⟨capx,h3,hroom,h4⟩ |⟨h3,h4⟩
  ·rcases hbase with ⟨_,_,h6⟩ |⟨k0,h5,⟨_,_,h6⟩ |⟨b,cap,cur,h2,h6,h7,h8,h9,h10,h11,_⟩⟩
   ·obtain⟨A,h6⟩:=h6
    rw[h6] at h3
    have hc:=(Xfb h3).2.2
    have:=Xc4.2 hne
    omega
   ·obtain⟨A,h6⟩:=h6
    rw[h6] at h3
    have hc:=(Xfb h3).2.2
    have:=Xc4.2 hne
    omega
   rw[h6] at h3
   cases h3
   refine .inl ⟨k0,_,cur,h5,h2,h7,hL,h4,fun off ho=>?_⟩
   rw[cget off (by omega),Xas (by omega),<-h11,Xbi,Xaz ho,Xb5]
  refine .inr ⟨h3,h4,fun k hk=>?_⟩
  rcases hbase with ⟨h5,_⟩ |⟨k0,h5,⟨h2,_⟩ |⟨b,cap,cur,h2,_⟩⟩
  ·rw[h5] at hk;cases hk
  ·rw[h5] at hk;cases hk;exact⟨_,h2⟩
  rw[h5] at hk;cases hk;exact⟨_,h2⟩
 obtain⟨evo,hd'⟩:=Zd6 (X:=X) (L':=(xs.length+ys.length)*m') hd hlt hn hcase
 have hheap:w'.heap[b']? = some (.cells cur' e (0,0)):=by
  rcases hcase with ⟨_,_,cur,_,_,h3,_,rfl,_⟩ |⟨rfl,rfl,_⟩
  ·exact Xgq w b' cur cur' _ _ h3
  exact Xel w.drew _
 have hXb:∀off,¬X b' off:=fun off hx'=>by
  rcases hbase with hb0 |⟨k0,h5,hb1⟩
  ·rcases hcase with ⟨k,L,cur,h6,_⟩ |⟨h6,_⟩
   ·rw[hb0.1] at h6;cases h6
   have:=hX _ _ hx';omega
  rcases hcase with ⟨k,L,cur,h6,h7,_⟩ |⟨h6,_⟩
  ·rw[h5] at h6
   cases h6
   rcases hb1 with ⟨h8,_⟩ |⟨b,cap,cur2,h8,_,_,_,_,_,_,h9⟩
   ·rw[h8] at h7;cases h7
   rw[h8] at h7;cases h7;exact h9 off hx'
  have:=hX _ _ hx';omega
 have hown:∀k,(fun k=>if k=n then FSlot.tok (some (b',(xs.length+ys.length)*m')) else if some k=n0 then .dead else φ k) k≠.own b':=fun k hk=>by
  have:=hd' k n b' (.inl hk) (.tok (Xaz rfl))
  subst this
  simp at hk
 refine Qkd hexec ?_
 refine k _ _ w' (RelV.acc n e m' (xs++ys) _ _ _ (fun j i=>cur'.getD (j*m'+i) undef) ⟨by simp,c2,c3,fun z hz=>?_,fun _=>⟨b',0,rfl,fun j z hj i hi=>?_⟩⟩ (fun j z hj i u hu=>?_) (by simp) (fun t ht=>?_)) (fun p hp=>?_) hd' (fun q hq=>?_) (fun b hb hfr=>?_) evo
 ·rcases Xby.1 hz with hz |hz
  ·exact hsz z hz
  exact ok.hsize z hz
 ·have hjl:j<xs.length+ys.length:=by simpa using(Xad.1 hj).1
  have hoff:=Qft hjl hi
  have hlt':j*m'+i<cur'.size:=by
   have:=Xbl m' c2
   omega
  rw[Xar]
  refine⟨⟨(Xa3.1 hheap).1,hXb _,hown,fun q L hq=>?_,fun q Y hq hy=>?_,fun q bs z hq hz=>?_⟩,?_⟩
  ·have hqn:=hd' q n b' (.tok hq) (.tok (Xaz rfl))
   subst hqn
   simp at hq
   omega
  ·have hqn:=hd' q n b' (.far hq hy) (.tok (Xaz rfl))
   subst hqn
   simp at hq
  ·have hqn:=hd' q n b' (.mat hq hz) (.tok (Xaz rfl))
   subst hqn
   simp at hq
  rw[Xe3 w' b' _ cur' _ _ hheap]
  simp[Xaf,hlt']
 ·have hjl:j<xs.length+ys.length:=by simpa using(Xad.1 hj).1
  have him:i<m':=by
   have hz:z∈xs++ys:=Xac hj
   have hlz:z.length=m':=by
    rcases Xby.1 hz with hz |hz
    ·exact hsz z hz
    exact ok.hsize z hz
   have:=(Xad.1 hu).1
   omega
  have hoff:=Qft hjl him
  refine RelV.evo ?_ evo
  rw[Xaf,cget _ hoff]
  by_cases hjx:j<xs.length
  ·rw[Xas (by rw[hol];exact Qft hjx him),hog j i hjx him]
   rw[Xas hjx] at hj
   exact hrx j z hj i u hu
  have hge:olds.length<=j*m'+i:=by
   rw[hol]
   have:=Xbl m' (Xc9 hjx)
   omega
  rw[Xam hge,hol]
  rw[Xam (Xc9 hjx)] at hj
  have e:j*m'+i-xs.length*m'=(j-xs.length)*m'+i:=by
   have:=Xbl m' (Xc9 hjx)
   rw[Nat.sub_mul]
   omega
  rw[e,hng (j-xs.length) i (by omega) him]
  exact hr _ z hj i u hu
 ·simp at ht
  subst ht
  exact⟨rfl,rfl,cur',hheap,c1,c3⟩
 ·rcases Xby.1 hp with hp |hp
  ·cases hn0:n0 with
   |none=>rw[hn0] at hp;cases hp
   |some k0=>
    rw[hn0] at hp
    simp[Qm1] at hp
    subst hp
    have hk0:k0≠n:=fun e=>by
     rcases hbase with ⟨h5,_⟩ |⟨k1,h5,hb1⟩
     ·rw[h5] at hn0;cases hn0
     rw[h5] at hn0
     cases hn0
     subst e
     rcases hb1 with ⟨h8,_⟩ |⟨b,cap,cur2,h8,_⟩<;>rw[h8] at hn<;>cases hn
    show(if k0=n then _ else if some k0=some k0 then FSlot.dead else φ k0)=.dead
    simp[hk0]
  simp at hp
  subst hp
  exact⟨some (b',(xs.length+ys.length)*m'),by simp,fun b L e=>by
   cases e
   exact⟨⟨_,_,_,hheap⟩,hXb⟩⟩
 ·have hqn:q≠n:=fun e=>hq (by simp[e])
  have hq0:some q≠n0:=fun e=>hq (by rw[<-e];simp[Qm1])
  simp[hqn,hq0]
 rcases hcase with ⟨k0,L,cur,h6,h7,h8,_,rfl,_⟩ |⟨_,rfl,_⟩
 ·refine Xea w b' b cur' fun e=>?_
  subst e
  refine hfr (k0,.dead) (by rw[h6];simp[Qm1]) ?_
  exact .tok h7
 exact Xbk w.drew _ hb
end
end
section
section
variable {P : Program} {o : Oper} {X : Nat -> Nat -> Prop} {φ : Nat -> FSlot} {w : World} {r : AV}
def Zmg {n0:Option Nat}{n:Nat}{T:Option (Nat×Nat)}(hd:Qdu φ) (hn:φ n=.unused) (hc:(n0=none/\T=none)\/∃k,n0=some k/\φ k=.tok T) :
  Evo X φ w (fun k=>if k=n then .tok T else if some k=n0 then .dead else φ k) w/\Qdu (fun k=>if k=n then FSlot.tok T else if some k=n0 then .dead else φ k):=by
 have ne:∀k,φ k≠.unused->k≠n:=fun k hk e=>hk (e▸hn)
 have dead0:∀k,some k=n0->φ k=.tok T:=fun k hk=>by
  rcases hc with ⟨rfl,_⟩ |⟨k0,rfl,h⟩
  ·cases hk
  cases hk;exact h
 have from0:∀b L,T=some (b,L)->∃k,some k=n0/\φ k=.tok (some (b,L)):=fun b L hT=>by
  rcases hc with ⟨_,rfl⟩ |⟨k0,rfl,h⟩
  ·cases hT
  exact⟨k0,rfl,hT▸h⟩
 refine⟨⟨rfl,rfl,rfl,Xay _,fun _ _ _=>rfl,fun b ⟨k,hk⟩=>?_,fun b off hdat=>⟨⟨hdat.lt,hdat.hid,fun k hk=>?_,fun k L hk=>?_,fun k Y hk=>?_,fun k bs q hk=>?_⟩,rfl⟩,fun k hk=>?_,fun k b hk=>?_,fun k t hk=>?_,fun k Y hk=>?_,fun k bs hk=>?_,fun _ _ _ _=>.same rfl⟩,fun k k' b hk hk'=>?_⟩
 ·dsimp only at hk
  split at hk
  ·obtain⟨L,e'⟩:=Qqx hk
   obtain⟨k0,_,h⟩:=from0 b L e'
   exact .inl ⟨k0,.tok h⟩
  split at hk
  ·exact(Qba hk).elim
  exact .inl ⟨k,hk⟩
 ·split at hk
  ·cases hk
  split at hk
  ·cases hk
  exact hdat.own k hk
 ·split at hk
  ·have e':T=some (b,L):=by simpa using hk
   obtain⟨k0,_,h⟩:=from0 b L e'
   exact hdat.tok k0 L h
  split at hk
  ·cases hk
  exact hdat.tok k L hk
 ·split at hk
  ·cases hk
  split at hk
  ·cases hk
  exact hdat.far k Y hk
 ·split at hk
  ·cases hk
  split at hk
  ·cases hk
  exact hdat.mat k bs q hk
 ·rw[Xat (ne k (by rw[hk];simp)),Xat (fun e=>by rw[dead0 k e] at hk;cases hk)]
  exact hk
 ·rw[Xat (ne k (by rw[hk];simp)),Xat (fun e=>by rw[dead0 k e] at hk;cases hk)]
  exact .inl hk
 ·rw[Xat (ne k (by rw[hk];simp))]
  by_cases e:some k=n0
  ·rw[Xaz e];exact .inl rfl
  rw[Xat e];exact .inr ⟨hk,fun _ _ _=>rfl⟩
 ·rw[Xat (ne k (by rw[hk];simp)),Xat (fun e=>by rw[dead0 k e] at hk;cases hk)]
  exact .inr ⟨Y,hk⟩
 ·rw[Xat (ne k (by rw[hk];simp)),Xat (fun e=>by rw[dead0 k e] at hk;cases hk)]
  exact .inr ⟨bs,hk,.refl bs⟩
 have back:∀k,(if k=n then FSlot.tok T else if some k=n0 then .dead else φ k).lies b->k=n/\(∃L,T=some (b,L))\/(k≠n/\some k≠n0/\(φ k).lies b):=fun k hk=>by
  split at hk
  ·exact .inl ⟨by assumption,Qqx hk⟩
  split at hk
  ·exact(Qba hk).elim
  exact .inr ⟨by assumption,by assumption,hk⟩
 rcases back k hk with ⟨h1,L,hL⟩ |⟨h1,h2,h3⟩<;>rcases back k' hk' with ⟨h1',L',hL'⟩ |⟨h1',h2',h3'⟩
 ·rw[h1,h1']
 ·obtain⟨k0,e0,h⟩:=from0 b L hL
  have:=hd k' k0 b h3' (.tok h)
  subst this
  exact absurd e0 h2'
 ·obtain⟨k0,e0,h⟩:=from0 b L' hL'
  have:=hd k k0 b h3 (.tok h)
  subst this
  exact absurd e0 h2
 exact hd k k' b h3 h3'
def DatOK.nil (m:Nat) (A:Option Addr) (cap:Nat) (g:Nat->Nat->Value) (h:cap<=maxLen):DatOK X φ w m [] A 0 cap g:=⟨rfl,Xbg _,h,by simp,fun h=>absurd rfl h⟩
def Q3z {x y:Operand}{t e:TypeId}{m m' bytes:Nat}{v u:AV}{xs:List (List AV)}{n0:Option Nat}{n:Nat}(h:o.op=.call { callee:=.builtin .append,args := #[x,y],argTypes := #[t,t] }) (ht:P.underlying t=some (.slice e)) (he:TE P e m bytes)
  (hv:Base e m v xs n0) (hu:Q0a u=some (m',[])):Qd0 P o [(x,v),(y,u)] (Qzk n0++[(n,.unused)]) (.acc n e m xs) (Qm1 n0++[(n,.tok)]):=by
 intro X φ a w hrd hbl hd hX hlt next Q k
 have hn:φ n=.unused:=hbl (n,.unused) (by simp)
 obtain⟨i,z,hi,hz,hisz,hiby,hzs⟩:=he.inf
 obtain⟨A,len,cap,g,hy,ok,hr⟩:=Qs6 (hrd (y,u) (by simp)) hu
 dsimp only at hy
 have elen:len=0:=by simpa using ok.hlen
 subst elen
 have hx:=hrd (x,v) (by simp)
 dsimp only at hx
 have hTI:(sizeOf e).run P w=.ok m w:=by simp[sizeOf,typeInfo,hi,hisz]
 have nothing:∀sv:Value,(sv=.slice none 0 0\/∃g n cap,sv=.slice (some g) n cap/\n<=cap)->(Builtin.append_ #[t,t] o.type #[sv,.slice A 0 cap]).run P w=.ok sv w:=fun sv hs=>by
  have hf:(Builtin.firstCells m 0 (.slice A 0 cap)).run P w=.ok #[] w:=by
   cases A with
   |none=>rfl
   |some a=>simp[Builtin.firstCells,loadCells,loadCellsFrom]
  rcases hs with rfl |⟨g,n,c,rfl,hn⟩
  ·simp[Builtin.append_,Xa8 ht,hTI,Builtin.lenOf,hf]
  simp[Builtin.append_,Xa8 ht,hTI,Builtin.lenOf,hf,hn,storeCells]
 obtain⟨T,hT,hxv,hrel⟩:∃T,((n0=none/\T=none)\/∃k,n0=some k/\φ k=.tok T/\∀b L,T=some (b,L)->(∃cur ty s,w.heap[b]? = some (.cells cur ty s))/\∀off,¬X b off)/\(a.eval x=.slice none 0 0\/∃g n cap,a.eval x=.slice (some g) n cap/\n<=cap) /\
   ∃A len cap g,a.eval x=.slice A len cap/\DatOK X φ w m xs A len cap g/\(∀j z,xs[j]? = some z->∀i c,z[i]? = some c->RelV X φ w c (g j i))/\Tip w T e m A len cap:=by
  cases hv with
  |nil=>
   have:=Qd1 hx
   exact⟨none,.inl ⟨rfl,rfl⟩,.inl this,none,0,0,fun _ _=>undef,this,DatOK.nil m none 0 _ (Xbg _),by simp,⟨rfl,rfl⟩⟩
  |acc k0 xs=>
   obtain⟨T,hT,hT2⟩:=hbl (k0,.tok) (by simp[Qzk])
   cases hxe:a.eval x with
   |slice A len cap=>
    rw[hxe] at hx
    cases hx with
    |acc _ _ _ _ _ _ _ gx okx hrx hnx htip=>
     have tip:=htip T hT
     refine⟨T,.inr ⟨k0,rfl,hT,hT2⟩,?_,A,len,cap,gx,rfl,okx,hrx,tip⟩
     unfold Tip at tip
     cases T with
     |none=>
      obtain⟨rfl,rfl⟩:=tip
      cases A with
      |none=>exact .inl rfl
      |some ad=>exact .inr ⟨ad,0,0,rfl,Xay _⟩
     |some p=>obtain⟨b,L⟩:=p;obtain⟨rfl,_⟩:=tip;exact .inr ⟨_,len,cap,rfl,okx.hcap⟩
   |_=>rw[hxe] at hx;cases hx
 obtain⟨A',len',cap',g',hxe,okx,hrx,tip⟩:=hrel
 obtain⟨evo,hd'⟩:=Zmg (X:=X) (w:=w) hd hn (T:=T) (n0:=n0) (by rcases hT with h |⟨k,h1,h2,_⟩;exact .inl h;exact .inr ⟨k,h1,h2⟩)
 have hexec:(execOp a.eval o).run P w=.ok (.value (a.eval x)) w:=by
  simp only[execOp,h,resolve,invoke,builtin,Xav,Xcr,Xao,Xgo,Xax,Xbz,hy,nothing _ hxv]
 refine Qkd hexec ?_
 refine k _ _ w ?_ (fun p hp=>?_) hd' (fun q hq=>?_) (fun _ _ _=>rfl) evo
 ·rw[hxe]
  exact RelV.acc n e m xs A' len' cap' g' (okx.evo evo) (fun j z hj i c hi=>(hrx j z hj i c hi).evo evo) (by simp) (fun t ht'=>by
   have e':T=t:=by simpa using ht'
   subst e';exact tip)
 ·rcases Xby.1 hp with hp |hp
  ·cases hn0:n0 with
   |none=>rw[hn0] at hp;cases hp
   |some k0=>
    rw[hn0] at hp
    simp[Qm1] at hp
    subst hp
    have hk0:k0≠n:=fun e'=>by
     rcases hT with ⟨h5,_⟩ |⟨k1,h5,h6,_⟩
     ·rw[h5] at hn0;cases hn0
     rw[h5] at hn0
     cases hn0
     rw[e',hn] at h6
     cases h6
    show(if k0=n then _ else if some k0=some k0 then FSlot.dead else φ k0)=.dead
    simp[hk0]
  simp at hp
  subst hp
  refine⟨T,by simp,fun b L e'=>?_⟩
  rcases hT with ⟨_,h6⟩ |⟨k1,_,_,h6⟩
  ·rw[h6] at e';cases e'
  exact h6 b L e'
 have hqn:q≠n:=fun e'=>hq (by simp[e'])
 have hq0:some q≠n0:=fun e'=>hq (by rw[<-e'];simp[Qm1])
 simp[hqn,hq0]
def Qg7 {x y:Operand}{t e:TypeId}{m m' bytes:Nat}{v u:AV}{xs ys:List (List AV)}{n0:Option Nat}{n:Nat}(h:o.op=.call { callee:=.builtin .append,args := #[x,y],argTypes := #[t,t] }) (ht:P.underlying t=some (.slice e)) (he:TE P e m bytes)
  (hv:Base e m v xs n0) (hu:Q0a u=some (m',ys)) (hm':m'=m) (h1:(ys.all fun y=>y.all AV.one)=true) (hb:(xs.length+ys.length)*bytes<=140737488355328) (h63:xs.length+ys.length<=maxLen) {zs:List (List AV)}(hz:xs++ys=zs) {bl eff:List (Nat×Slot)}(hbl:Qzk n0++[(n,.unused)]=bl) (heff:Qm1 n0++[(n,.tok)]=eff) :
  Qd0 P o [(x,v),(y,u)] bl (.acc n e m zs) eff:=by
 subst hz hbl heff
 by_cases hne:ys=[]
 ·subst hne
  rw[Xbn]
  exact Q3z h ht he hv hu
 exact Q6r h ht he hv hu hm' hne h1 hb h63
def Qfp {fn:Fn}{first captured:Array Operand}{rd:List (Operand×AV)}{fs cs:List AV}(h:o.op=.makeFunc fn first captured) (hf:first.toList.zip fs++captured.toList.zip cs=rd) (h1:fs.length=first.size) (h2:cs.length=captured.size):Qd0 P o rd [] (.fn fn fs cs) []:=Qc6 fun X φ a w hrd _=>by
 refine⟨.func fn (first.map a.eval) (captured.map a.eval),by simp[execOp,h,Instr.makeFunc],.fn _ _ _ _ _ (by simp[h1]) (by simp[h2]) (fun i v hi=>?_) (fun i v hi=>?_)⟩
 ·have hil:=(Xad.1 hi).1
  have hix:i<first.size:=by omega
  have:=hrd (first[i],v) (by
   rw[<-hf]
   refine Xc0 _ (Xac (i:=i) ?_)
   simp[Xbs,hix,hi])
  simpa [Xaf,hix] using this
 have hil:=(Xad.1 hi).1
 have hix:i<captured.size:=by omega
 have:=hrd (captured[i],v) (by
  rw[<-hf]
  refine Xd5 _ (Xac (i:=i) ?_)
  simp[Xbs,hix,hi])
 simpa [Xaf,hix] using this
def Zhp:AV->Bool
 |.dptr .. => true
 |.fn (.func _) _ _=>true
 |_=>false
def Q1g {x:Operand}{v:AV}(h:o.op=.nilCheck x) (hv:Zhp v=true):Qd0 P o [(x,v)] [] v []:=Qc6 fun X φ a w hrd _=>by
 have hx:=hrd (x,v) (by simp)
 dsimp only at hx
 refine⟨a.eval x,?_,hx⟩
 cases v with
 |dptr cs i=>
  cases hu:a.eval x with
  |pointer A=>
   rw[hu] at hx
   cases hx with
   |dptr _ _ b of g' hc hr=>simp only[execOp,h,hu];rfl
  |_=>rw[hu] at hx;cases hx
 |fn f first cap=>
  cases f with
  |func g=>
   cases hu:a.eval x with
   |func fn us vs=>
    rw[hu] at hx
    cases hx with
    |fn=>simp only[execOp,h,hu];rfl
   |_=>rw[hu] at hx;cases hx
  |_=>cases hv
 |_=>cases hv
def Qbi {x:Operand}{n m j i:Nat}{xs:List (List AV)}(h:o.op=.nilCheck x):Qd0 P o [(x,.ref n m j i)] [(n,.own m xs)] (.ref n m j i) []:=Qc6 fun X φ a w hrd hbl=>by
 obtain⟨b,hb,hown⟩:=hbl (n,.own m xs) (by simp)
 have hx:=hrd (x,.ref n m j i) (by simp)
 have hv:a.eval x=_:=Qs5 hx hb
 exact⟨a.eval x,by simp only[execOp,h,hv];rfl,hx⟩
inductive Rn (M:Nat->Nat->Prop):AV->AV->Prop where
 |plain (a:AV) (h:NLt 0 a):Rn M a a
 |ref {n n':Nat}(h:M n n') (m j i:Nat):Rn M (.ref n m j i) (.ref n' m j i)
 |own {n n':Nat}(h:M n n') (m j len:Nat):Rn M (.own n m j len) (.own n' m j len)
 |acc {n n':Nat}(h:M n n') (ty:TypeId) (m:Nat) (xs:List (List AV)) (hx:∀x∈xs,∀a∈x,NLt 0 a):Rn M (.acc n ty m xs) (.acc n' ty m xs)
 |gro {n n':Nat}(h:M n n') (ty:TypeId) (m len:Nat):Rn M (.gro n ty m len) (.gro n' ty m len)
 |row {n n':Nat}(h:M n n') (k m j len:Nat):Rn M (.row n k m j len) (.row n' k m j len)
 |rowp {n n':Nat}(h:M n n') (k m j i:Nat):Rn M (.rowp n k m j i) (.rowp n' k m j i)
 |mp {n n':Nat}(h:M n n'):Rn M (.mp n) (.mp n')
 |agg (l l':List AV) (hl:l.length=l'.length) (h:∀(i:Nat) a a',l[i]? = some a->l'[i]? = some a'->Rn M a a'):Rn M (.agg l) (.agg l')
 |tup (l l':List AV) (hl:l.length=l'.length) (h:∀(i:Nat) a a',l[i]? = some a->l'[i]? = some a'->Rn M a a'):Rn M (.tup l) (.tup l')
 |fn (f:Fn) (l l' c c':List AV) (hl:l.length=l'.length) (hc:c.length=c'.length) (h:∀(i:Nat) a a',l[i]? = some a->l'[i]? = some a'->Rn M a a') (h':∀(i:Nat) a a',c[i]? = some a->c'[i]? = some a'->Rn M a a'):Rn M (.fn f l c) (.fn f l' c')
 |dat (m:Nat) (xs xs':List (List AV)) (hl:xs.length=xs'.length) (hx:∀(j:Nat) x x',xs[j]? = some x->xs'[j]? = some x'->x.length=x'.length) (h:∀(j:Nat) x x',xs[j]? = some x->xs'[j]? = some x'->∀(i:Nat) a a',x[i]? = some a->x'[i]? = some a'->Rn M a a'):Rn M (.dat m xs) (.dat m xs')
def Rn.symm {M:Nat->Nat->Prop}{a a':AV}(h:Rn M a a'):Rn (fun n n'=>M n' n) a' a:=by
 induction h with
 |plain a h=>exact .plain a h
 |ref h m j i=>exact Rn.ref (M:=fun n n'=>M n' n) h m j i
 |own h m j len=>exact Rn.own (M:=fun n n'=>M n' n) h m j len
 |acc h ty m xs hx=>exact Rn.acc (M:=fun n n'=>M n' n) h ty m xs hx
 |gro h ty m len=>exact Rn.gro (M:=fun n n'=>M n' n) h ty m len
 |row h k m j len=>exact Rn.row (M:=fun n n'=>M n' n) h k m j len
 |rowp h k m j i=>exact Rn.rowp (M:=fun n n'=>M n' n) h k m j i
 |mp h=>exact Rn.mp (M:=fun n n'=>M n' n) h
 |agg l l' hl _ ih=>exact .agg _ _ hl.symm fun i a a' h1 h2=>ih i a' a h2 h1
 |tup l l' hl _ ih=>exact .tup _ _ hl.symm fun i a a' h1 h2=>ih i a' a h2 h1
 |fn f l l' c c' hl hc _ _ ih1 ih2=>exact .fn f _ _ _ _ hl.symm hc.symm (fun i a a' h1 h2=>ih1 i a' a h2 h1) (fun i a a' h1 h2=>ih2 i a' a h2 h1)
 |dat m xs xs' hl hx _ ih=>exact .dat m _ _ hl.symm (fun j x x' h1 h2=>(hx j x' x h2 h1).symm) (fun j x x' h1 h2 i a a' k1 k2=>ih j x' x h2 h1 i a' a k2 k1)
def RelV.ren {X':Nat->Nat->Prop}{φ':Nat->FSlot}{M:Nat->Nat->Prop}(hd:∀b off,DataAt X φ w b off->DataAt X' φ' w b off) (hn:∀n n',M n n'->φ' n'=φ n) {a a':AV}(hr:Rn M a a'):∀{v:Value},RelV X φ w a v->RelV X' φ' w a' v:=by
 induction hr with
 |plain a h=>exact fun hv=>hv.env (k:=0) (fun n hn=>absurd hn (Xcl n)) hd h
 |ref h m j i=>
  intro v hv
  cases hv with
  |ref _ _ _ _ A hu hb=>exact .ref _ _ _ _ A (by rw[hn _ _ h];exact hu) (by rw[hn _ _ h];exact hb)
 |own h m j len=>
  intro v hv
  cases hv with
  |own _ _ _ _ A cap h1 h2 hu hb=>exact .own _ _ _ _ A cap h1 h2 (by rw[hn _ _ h];exact hu) (by rw[hn _ _ h];exact hb)
 |acc h ty m xs hx=>
  intro v hv
  cases hv with
  |acc _ _ _ _ A len cap g ok hr hu ht=>exact .acc _ ty m xs A len cap g (ok.env hd) (fun j x hj i a hi=>(hr j x hj i a hi).env (k:=0) (fun n hn=>absurd hn (Xcl n)) hd (hx x (Xac hj) a (Xac hi))) (by rw[hn _ _ h];exact hu) (by rw[hn _ _ h];exact ht)
 |gro h ty m len=>
  intro v hv
  cases hv with
  |gro _ _ _ _ A cap hc hm hu hvd hb=>exact .gro _ ty m len A cap hc hm (by rw[hn _ _ h];exact hu) (by rw[hn _ _ h];exact hvd) (by rw[hn _ _ h];exact hb)
 |row h k m j len=>
  intro v hv
  cases hv with
  |row _ _ _ _ _ A cap h1 h2 hu hb=>exact .row _ _ _ _ _ A cap h1 h2 (by rw[hn _ _ h];exact hu) (by rw[hn _ _ h];exact hb)
 |rowp h k m j i=>
  intro v hv
  cases hv with
  |rowp _ _ _ _ _ A hu hb=>exact .rowp _ _ _ _ _ A (by rw[hn _ _ h];exact hu) (by rw[hn _ _ h];exact hb)
 |mp h=>
  intro v hv
  cases hv with
  |mp _ A hu hb=>exact .mp _ A (by rw[hn _ _ h];exact hu) (by rw[hn _ _ h];exact hb)
 |agg l l' hl _ ih=>
  intro v hv
  cases hv with
  |agg _ vs hs h=>
   refine .agg _ vs (hs.trans hl) fun i a' hi=>?_
   have hlt:=(Xad.1 hi).1
   exact ih i _ a' (Xab (by omega)) hi (h i _ (Xab (by omega)))
 |tup l l' hl _ ih=>
  intro v hv
  cases hv with
  |tup _ vs hs h=>
   refine .tup _ vs (hs.trans hl) fun i a' hi=>?_
   have hlt:=(Xad.1 hi).1
   exact ih i _ a' (Xab (by omega)) hi (h i _ (Xab (by omega)))
 |fn f l l' c c' hl hc _ _ ih1 ih2=>
  intro v hv
  cases hv with
  |fn _ _ _ us vs hu hv h1 h2=>
   refine .fn f _ _ us vs (hu.trans hl) (hv.trans hc) (fun i a' hi=>?_) (fun i a' hi=>?_)
   ·have hlt:=(Xad.1 hi).1
    exact ih1 i _ a' (Xab (by omega)) hi (h1 i _ (Xab (by omega)))
   have hlt:=(Xad.1 hi).1
   exact ih2 i _ a' (Xab (by omega)) hi (h2 i _ (Xab (by omega)))
 |dat m xs xs' hl hx _ ih=>
  intro v hv
  cases hv with
  |dat _ _ A len cap g ok hr=>
   have back:∀(j:Nat) x',xs'[j]? = some x'->∃x,xs[j]? = some x/\x.length=x'.length:=fun j x' hj=>by
    have hlt:=(Xad.1 hj).1
    exact⟨_,Xab (by omega),hx j _ x' (Xab (by omega)) hj⟩
   have ok':=ok.env hd
   refine .dat _ _ A len cap g ⟨ok.hlen.trans hl,ok.hcap,ok.hmost,fun x' hx'=>?_,fun hne=>?_⟩ fun j x' hj i a' hi=>?_
   ·obtain⟨j,hj⟩:=List.mem_iff_getElem?.1 hx'
    obtain⟨x,h1,h2⟩:=back j x' hj
    rw[<-h2];exact ok.hsize x (Xac h1)
   ·obtain⟨b,o,hA,hc⟩:=ok'.hcells (fun e=>hne (by rw[e] at hl;exact Xau hl.symm))
    refine⟨b,o,hA,fun j x' hj i hi=>?_⟩
    obtain⟨x,h1,_⟩:=back j x' hj
    exact hc j x h1 i hi
   obtain⟨x,h1,h2⟩:=back j x' hj
   have hlt:=(Xad.1 hi).1
   exact ih j x x' h1 hj i _ a' (Xab (by omega)) hi (hr j x h1 i _ (Xab (by omega)))
end
inductive SRn (M:Nat->Nat->Prop):Slot->Slot->Prop where
 |dead:SRn M .dead .dead
 |tok:SRn M .tok .tok
 |own (m:Nat) (xs xs':List (List AV)) (hl:xs.length=xs'.length) (hx:∀(j:Nat) x x',xs[j]? = some x->xs'[j]? = some x'->x.length=x'.length) (h:∀(j:Nat) x x',xs[j]? = some x->xs'[j]? = some x'->∀(i:Nat) a a',x[i]? = some a->x'[i]? = some a'->Rn M a a'):SRn M (.own m xs) (.own m xs')
 |gro (m:Nat) (xs xs':List (List AV)) (hl:xs.length=xs'.length) (hx:∀(j:Nat) x x',xs[j]? = some x->xs'[j]? = some x'->x.length=x'.length) (h:∀(j:Nat) x x',xs[j]? = some x->xs'[j]? = some x'->∀(i:Nat) a a',x[i]? = some a->x'[i]? = some a'->Rn M a a'):SRn M (.gro m xs) (.gro m xs')
 |mat (m:Nat) (rows:List (List (List AV))) (h:∀r∈rows,∀x∈r,∀a∈x,NLt 0 a):SRn M (.mat m rows) (.mat m rows)
 |mp (es:Array MapEntry) (clock:Nat):SRn M (.mp es clock) (.mp es clock)
def SRn.plain {M:Nat->Nat->Prop}{m:Nat}{xs:List (List AV)}(h:∀x∈xs,∀a∈x,NLt 0 a):SRn M (.own m xs) (.own m xs):=
 .own m xs xs rfl (fun j x x' h1 h2=>by rw[h1] at h2;cases h2;rfl) fun j x x' h1 h2 i a a' h3 h4=>by
  rw[h1] at h2;cases h2;rw[h3] at h4;cases h4
  exact .plain a (h x (Xac h1) a (Xac h3))
section
variable {P : Program} {o : Oper} {X : Nat -> Nat -> Prop} {φ : Nat -> FSlot} {w : World} {r : AV}
def OwnOK.ren {X':Nat->Nat->Prop}{φ':Nat->FSlot}{M:Nat->Nat->Prop}(hd:∀b off,DataAt X φ w b off->DataAt X' φ' w b off) (hn:∀n n',M n n'->φ' n'=φ n) {b m:Nat}{xs xs':List (List AV)}(h:OwnOK X φ w b m xs) (hr:SRn M (.own m xs) (.own m xs')) (hX:∀off,¬X' b off):OwnOK X' φ' w b m xs':=by
 cases hr with
 |own _ _ _ hl hx hr=>
  obtain⟨cur,ty,h1,h2,h3,h4⟩:=h.blk
  have back:∀(j:Nat) x',xs'[j]? = some x'->∃x,xs[j]? = some x:=fun j x' hj=>⟨_,Xab (by have:=(Xad.1 hj).1;omega)⟩
  refine⟨⟨cur,ty,h1,by rw[<-hl];exact h2,fun x' hx'=>?_,fun j x' hj i a' hi=>?_⟩,hX⟩
  ·obtain⟨j,hj,rfl⟩:=Xdz hx'
   have hj':=Xab hj
   obtain⟨x,hxj⟩:=back j _ hj'
   rw[<-hx j x _ hxj hj']
   exact h3 x (Xac hxj)
  obtain⟨x,hxj⟩:=back j x' hj
  have hlt:=(Xad.1 hi).1
  have:=hx j x x' hxj hj
  exact RelV.ren hd hn (hr j x x' hxj hj i _ a' (Xab (by omega)) hi) (h4 j x hxj i _ (Xab (by omega)))
def Quq {C:Array Value->World->(Ending->World->Prop)->Prop}(hC:∀vals w R R',(∀e w,R e w->R' e w)->C vals w R->C vals w R') {E:Value->Ending->Prop}{args argr:List AV}{σ σr σ' σr':List Slot}{res res':AV}{vals:Array Value}(ρ:List Nat) (hnd:ρ.Nodup)
  (spec:Zki C E args σ res σ') (hargs:Rn (fun n n'=>ρ[n]? = some n'/\n<σ.length) (.agg args) (.agg argr))
  (hlr:σr.length=σ.length) (hσ:∀(n:Nat) s s',σ[n]? = some s->σr[n]? = some s'->(s≠.dead/\s≠.tok)/\SRn (fun n n'=>ρ[n]? = some n'/\n<σ.length) s s') (hl':σ'.length=ρ.length) (hlr':σr'.length=ρ.length) (hle:σ.length<=ρ.length)
  (hσ':∀(n:Nat) s s',σ'[n]? = some s->σr'[n]? = some s'->SRn (fun n n'=>ρ[n]? = some n') s s') (hres:Rn (fun n n'=>ρ[n]? = some n') res res')
  (hvals:RelV X φ w (.agg argr) (.agg vals)) (hb:∀p∈(ρ.take σ.length).zip σr++(ρ.drop σ.length).map (fun n=>(n,Slot.unused)),SlotOK X φ w p.1 p.2) (hd:Qdu φ) (hX:∀b off,X b off->b<w.heap.size) (hlt:∀n b,(φ n).lies b->b<w.heap.size) :
  C vals w fun e w'=>∃v φ',E v e/\RelV X φ' w' res' v/\(∀p∈ρ.zip σr',SlotOK X φ' w' p.1 p.2)/\Qdu φ'/\(∀n,n∉(ρ.zip σr').map (·.1)->φ' n=φ n)/\(∀b,b<w.heap.size->(∀p∈ρ.zip σr',¬(φ p.1).lies b)->w'.heap[b]? = w.heap[b]?)/\Evo X φ w φ' w':=by
 have hold:∀n n' s,ρ[n]? = some n'->σ[n]? = some s->∃s',σr[n]? = some s'/\SlotOK X φ w n' s':=fun n n' s hn hs=>by
  have hlt:=(Xad.1 hs).1
  have hs':=Xab (show n<σr.length by omega)
  refine⟨_,hs',hb (n',_) (Xc0 _ (Xac (i:=n) ?_))⟩
  rw[Xbs]
  exact⟨by rw[Xbi,Xaz hlt];exact hn,hs'⟩
 have hnew:∀n n',ρ[n]? = some n'->σ.length<=n->φ n'=.unused:=fun n n' hn hge=>
  hb (n',.unused) (Xd5 _ (Xba.2 ⟨n',Xac (i:=n-σ.length) (by rw[Xch,show σ.length+(n-σ.length)=n from by omega];exact hn),rfl⟩))
 have hown:∀n n',ρ[n]? = some n'->n<σ.length->(∃b,φ n'=.own b)\/φ n'=.tok none\/∃bs,φ n'=.mat bs:=fun n n' hn hlt=>by
  obtain⟨s',hs',hok⟩:=hold n n' _ hn (Xab hlt)
  obtain⟨h1,h2⟩:=hσ n _ s' (Xab hlt) hs'
  generalize σ[n]=s at h1 h2
  cases h2 with
  |dead=>exact absurd rfl h1.1
  |tok=>exact absurd rfl h1.2
  |own m xs xs'=>obtain⟨b,hb',_⟩:=hok;exact .inl ⟨b,hb'⟩
  |gro m xs xs'=>
   rcases hok with ⟨_,h⟩ |⟨b,hb',_⟩
   ·exact .inr (.inl h)
   exact .inl ⟨b,hb'⟩
  |mat m rows=>obtain⟨bs,hb',_⟩:=hok;exact .inr (.inr ⟨bs,hb'⟩)
  |mp es clock=>obtain⟨b,hb',_⟩:=hok;exact .inl ⟨b,hb'⟩
 have inj:∀(n1 n2 n':Nat),ρ[n1]? = some n'->ρ[n2]? = some n'->n1=n2:=fun n1 n2 n' h1 h2=>by
  have l1:=(Xad.1 h1)
  have l2:=(Xad.1 h2)
  obtain⟨l1,e1⟩:=l1
  obtain⟨l2,e2⟩:=l2
  exact(Xgp hnd).1 (e1.trans e2.symm)
 let φc:Nat->FSlot:=fun n=>if n<σ.length then(match ρ[n]? with |some n'=>φ n' |none=>.unused) else .unused
 let X':Nat->Nat->Prop:=fun b off=>X b off\/(b<w.heap.size/\((∃n',φ n'=.own b/\∀n,n<σ.length->ρ[n]? ≠ some n')\/(∃n' L,φ n'=.tok (some (b,L))/\L<=off)\/(∃n' Y,φ n'=.far Y/\Y b off)\/∃(n':Nat) (bs:List (Option Nat)) (k:Nat),φ n'=.mat bs/\bs[k]? = some (some b)/\∀n,n<σ.length->ρ[n]? ≠ some n'))
 have cM:∀n n',ρ[n]? = some n'/\n<σ.length->φc n=φ n':=fun n n' ⟨h1,h2⟩=>by
  show(if n<σ.length then _ else _)=_
  rw[Xaz h2,h1]
 have cinv:∀n b,(φc n).lies b->∃n',ρ[n]? = some n'/\n<σ.length/\Blk φ n' b:=fun n b hb'=>by
  have hb2:(if n<σ.length then(match ρ[n]? with |some n'=>φ n' |none=>.unused) else FSlot.unused).lies b:=hb'
  by_cases hn:n<σ.length
  ·rw[Xaz hn] at hb2
   have hρ:=Xab (show n<ρ.length by omega)
   rw[hρ] at hb2
   dsimp only at hb2
   rcases hown n _ hρ hn with ⟨b',hb3⟩ |hb3 |⟨bs,hb3⟩
   ·rw[hb3] at hb2
    obtain rfl:=Qir hb2
    exact⟨_,hρ,hn,.inl hb3⟩
   ·rw[hb3] at hb2
    exact(Qe7 hb2).elim
   rw[hb3] at hb2
   obtain⟨k,hk⟩:=Q24 hb2
   exact⟨_,hρ,hn,.inr ⟨bs,k,hb3,hk⟩⟩
  rw[Xat hn] at hb2
  exact(Qf1 hb2).elim
 have fwd:∀b off,DataAt X φ w b off->DataAt X' φc w b off:=fun b off hdat=>⟨hdat.lt,fun hx=>by
  rcases hx with hx |⟨_,⟨n',h1,_⟩ |⟨n',L,h1,h2⟩ |⟨n',Y,h1,h2⟩ |⟨n',bs,k,h1,h2,_⟩⟩
  ·exact hdat.hid hx
  ·exact hdat.own n' h1
  ·exact absurd (hdat.tok n' L h1) (by omega)
  ·exact hdat.far n' Y h1 h2
  ·exact hdat.mat n' bs k h1 h2,fun n hn=>by
  obtain⟨n',_,_,h3⟩:=cinv n b (.inl hn)
  exact hdat.blk h3,fun n L hn=>by
  obtain⟨n',_,_,h3⟩:=cinv n b (.tok hn)
  exact(hdat.blk h3).elim,fun n Y hn hy=>by
  obtain⟨n',_,_,h3⟩:=cinv n b (.far hn hy)
  exact hdat.blk h3,fun n bs k hn hk=>by
  obtain⟨n',_,_,h3⟩:=cinv n b (.mat hn hk)
  exact hdat.blk h3⟩
 have hX':∀b off,X' b off->b<w.heap.size:=fun b off hx=>by
  rcases hx with hx |⟨hx,_⟩
  ·exact hX b off hx
  exact hx
 have hXown:∀n n' b,ρ[n]? = some n'->n<σ.length->Blk φ n' b->(∀off,¬X b off)->∀off,¬X' b off:=fun n n' b h1 h2 h3 h4 off hx=>by
  rcases hx with hx |⟨_,⟨n2,h5,h6⟩ |⟨n2,L,h5,_⟩ |⟨n2,Y,h5,hy⟩ |⟨n2,bs,k,h5,hk,h6⟩⟩
  ·exact h4 off hx
  ·have:=hd n' n2 b h3.lies (.inl h5)
   subst this
   exact h6 n h2 h1
  ·have:=hd n' n2 b h3.lies (.tok h5)
   subst this
   exact h3.notok h5
  ·have:=hd n' n2 b h3.lies (.far h5 hy)
   subst this
   exact h3.nofar h5
  have:=hd n' n2 b h3.lies (.mat h5 hk)
  subst this
  exact h6 n h2 h1
 have henv:Qo4 X' φc w (fun n=>σ.getD n .unused):=⟨fun n=>by
  by_cases hn:n<σ.length
  ·have hρ:=Xab (show n<ρ.length by omega)
   obtain⟨s',hs',hok⟩:=hold n _ _ hρ (Xab hn)
   obtain⟨h1,h2⟩:=hσ n _ s' (Xab hn) hs'
   have e:σ.getD n .unused=σ[n]:=by simp[hn]
   show SlotOK X' φc w n (σ.getD n .unused)
   rw[e]
   have hc:=cM n _ ⟨hρ,hn⟩
   generalize σ[n]=s at h1 h2
   generalize ρ[n]=n' at hρ hok hc
   cases h2 with
   |dead=>exact absurd rfl h1.1
   |tok=>exact absurd rfl h1.2
   |own m xs xs' hl hx hr=>
    obtain⟨b,hb',hok'⟩:=hok
    exact⟨b,hc.trans hb',OwnOK.ren fwd (M:=fun n' n=>ρ[n]? = some n'/\n<σ.length) (fun n' n hM=>cM n n' hM) hok' (.own m xs' xs hl.symm (fun j x x' h1 h2=>(hx j x' x h2 h1).symm) fun j x x' h1 h2 i a a' h3 h4=>(hr j x' x h2 h1 i a' a h4 h3).symm) (hXown n n' b hρ hn (.inl hb') hok'.hid)⟩
   |gro m xs xs' hl hx hr=>
    rcases hok with ⟨h3,h4⟩ |⟨b,hb',hok'⟩
    ·refine .inl ⟨?_,hc.trans h4⟩
     exact Xau (by rw[hl,h3];rfl)
    exact .inr ⟨b,hc.trans hb',OwnOK.ren fwd (M:=fun n' n=>ρ[n]? = some n'/\n<σ.length) (fun n' n hM=>cM n n' hM) hok' (.own m xs' xs hl.symm (fun j x x' h1 h2=>(hx j x' x h2 h1).symm) fun j x x' h1 h2 i a a' h3 h4=>(hr j x' x h2 h1 i a' a h4 h3).symm) (hXown n n' b hρ hn (.inl hb') hok'.hid)⟩
   |mat m rows hx=>
    obtain⟨bs,m1,m2,m3,m4⟩:=hok
    refine⟨bs,hc.trans m1,m2,m3,fun k xs hk=>?_⟩
    rcases m4 k xs hk with m5 |⟨b,m5,m6⟩
    ·exact .inl m5
    exact .inr ⟨b,m5,OwnOK.ren fwd (M:=fun n' n=>ρ[n]? = some n'/\n<σ.length) (fun n' n hM=>cM n n' hM) m6 (.plain (hx xs (Xac hk))) (hXown n n' b hρ hn (.inr ⟨bs,k,m1,m5⟩) m6.hid)⟩
   |mp es clock=>
    obtain⟨b,hb',hok'⟩:=hok
    exact⟨b,hc.trans hb',hok'.blk,hXown n n' b hρ hn (.inl hb') hok'.hid⟩
  ·have e:σ.getD n .unused=.unused:=by simp[Xbb (Xc9 hn)]
   show SlotOK X' φc w n (σ.getD n .unused)
   rw[e]
   show(if n<σ.length then _ else _)=_
   rw[Xat hn],fun n n' b h1 h2=>by
  obtain⟨m1,e1,_,h3⟩:=cinv n b h1
  obtain⟨m2,e2,_,h4⟩:=cinv n' b h2
  have:=hd m1 m2 b h3.lies h4.lies
  subst this
  exact inj n n' m1 e1 e2,hX'⟩
 have hargs':=RelV.ren fwd (fun n' n hM=>cM n n' hM) hargs.symm hvals
 cases hargs' with
 |agg _ _ hsz hall=>
  refine hC _ _ _ _ ?_ (spec X' φc w _ hsz hall henv)
  rintro e w' ⟨v,φc',hE,hrv,henv',hevo⟩
  let φ':Nat->FSlot:=fun n'=>if n'∈ρ then φc' (ρ.idxOf n') else φ n'
  have bM:∀n n',ρ[n]? = some n'->φ' n'=φc' n:=fun n n' hn=>by
   have hm:n'∈ρ:=Xac hn
   have hi:ρ.idxOf n'=n:=by
    have h5:ρ.idxOf n'<ρ.length:=List.idxOf_lt_length_of_mem hm
    have h6:ρ[ρ.idxOf n']? = some n':=by rw[Xab h5,List.getElem_idxOf h5]
    exact inj _ _ _ h6 hn
   show(if n'∈ρ then φc' (ρ.idxOf n') else φ n')=_
   rw[Xaz hm,hi]
  have oM:∀n',n'∉ρ->φ' n'=φ n':=fun n' hn=>by
   show(if n'∈ρ then φc' (ρ.idxOf n') else φ n')=_
   rw[Xat hn]
  have get:∀n',n'∈ρ->∃n,ρ[n]? = some n':=fun n' hn=>Xcj hn
  have oldn:∀n n',ρ[n]? = some n'->φ n'≠.unused->n<σ.length:=fun n n' hn hne=>by
   rcases Xcm n σ.length with h' |h'
   ·exact h'
   exact absurd (hnew n n' hn h') hne
  have back:∀b off,DataAt X' φc' w' b off->DataAt X φ' w' b off:=fun b off hdat=>⟨hdat.lt,fun hx=>hdat.hid (.inl hx),fun n' hn'=>by
   by_cases hm:n'∈ρ
   ·obtain⟨n,hn⟩:=get n' hm
    rw[bM n n' hn] at hn'
    exact hdat.own n hn'
   ·rw[oM n' hm] at hn'
    exact hdat.hid (.inr ⟨hlt n' b (.inl hn'),.inl ⟨n',hn',fun n _ hn=>hm (Xac hn)⟩⟩),fun n' L hn'=>by
   by_cases hm:n'∈ρ
   ·obtain⟨n,hn⟩:=get n' hm
    rw[bM n n' hn] at hn'
    exact hdat.tok n L hn'
   ·rw[oM n' hm] at hn'
    rcases Xcm off L with h' |h'
    ·exact h'
    exact absurd (.inr ⟨hlt n' b (.tok hn'),.inr (.inl ⟨n',L,hn',h'⟩)⟩) hdat.hid,fun n' Y hn' hy=>by
   by_cases hm:n'∈ρ
   ·obtain⟨n,hn⟩:=get n' hm
    rw[bM n n' hn] at hn'
    exact hdat.far n Y hn' hy
   ·rw[oM n' hm] at hn'
    exact hdat.hid (.inr ⟨hlt n' b (.far hn' hy),.inr (.inr (.inl ⟨n',Y,hn',hy⟩))⟩),fun n' bs k hn' hk=>by
   by_cases hm:n'∈ρ
   ·obtain⟨n,hn⟩:=get n' hm
    rw[bM n n' hn] at hn'
    exact hdat.mat n bs k hn' hk
   rw[oM n' hm] at hn'
   exact hdat.hid (.inr ⟨hlt n' b (.mat hn' hk),.inr (.inr (.inr ⟨n',bs,k,hn',hk,fun n _ hn=>hm (Xac hn)⟩))⟩)⟩
  have cev:∀b,b<w.heap.size->(∀n',n'∈ρ->¬(φ n').lies b)->w'.heap[b]? = w.heap[b]? := fun b hb' hno=>hevo.blk b hb' fun ⟨n,hn⟩=>by
   obtain⟨n',h3,_,h4⟩:=cinv n b hn
   exact hno n' (Xac h3) h4.lies
  have evo:Evo X φ w φ' w':=by
   refine⟨hevo.os,hevo.tape,hevo.output,hevo.size,fun b hb' hno=>cev b hb' fun n' _ hl=>hno ⟨n',hl⟩,fun b ⟨n',hn'⟩=>?_,fun b off hdat=>?_,fun n' hn'=>?_,fun n' b hn'=>?_,fun n' t hn'=>?_,fun n' Y hn'=>?_,fun n' bs hn'=>?_,fun n' b hn' hn2=>?_⟩
   ·by_cases hm:n'∈ρ
    ·obtain⟨n,hn⟩:=get n' hm
     rw[bM n n' hn] at hn'
     rcases hevo.new b ⟨n,hn'⟩ with ⟨n2,h3⟩ |h3
     ·obtain⟨n3,_,_,h4⟩:=cinv n2 b h3
      exact .inl ⟨n3,h4.lies⟩
     exact .inr h3
    rw[oM n' hm] at hn'
    exact .inl ⟨n',hn'⟩
   ·obtain⟨h3,h4⟩:=hevo.dat b off (fwd b off hdat)
    exact⟨back b off h3,h4⟩
   ·have hm:n'∉ρ:=fun hm=>by
     obtain⟨n,hn⟩:=get n' hm
     rcases hown n n' hn (oldn n n' hn (by rw[hn'];simp)) with ⟨b,hb'⟩ |hb' |⟨bs,hb'⟩<;>rw[hb'] at hn'<;>cases hn'
    rw[oM n' hm];exact hn'
   ·by_cases hm:n'∈ρ
    ·obtain⟨n,hn⟩:=get n' hm
     have hlt':=oldn n n' hn (by rw[hn'];simp)
     rw[bM n n' hn]
     exact hevo.own n b ((cM n n' ⟨hn,hlt'⟩).trans hn')
    rw[oM n' hm];exact .inl hn'
   ·by_cases hm:n'∈ρ
    ·obtain⟨n,hn⟩:=get n' hm
     have hlt':=oldn n n' hn (by rw[hn'];simp)
     have ht:t=none:=by
      rcases hown n n' hn hlt' with ⟨b,hb'⟩ |hb' |⟨bs,hb'⟩<;>rw[hb'] at hn'<;>cases hn'
      rfl
     subst ht
     rw[bM n n' hn]
     rcases hevo.tok n none ((cM n n' ⟨hn,hlt'⟩).trans hn') with e |⟨e,_⟩
     ·exact .inl e
     exact .inr ⟨e,fun b L e=>by cases e⟩
    rw[oM n' hm]
    refine .inr ⟨hn',fun b L ht=>cev b (hlt n' b (.tok (L:=L) (by rw[hn',ht]))) fun n2 hm2 hl2=>?_⟩
    have:=hd n' n2 b (.tok (L:=L) (by rw[hn',ht])) hl2
    subst this
    exact hm hm2
   ·have hm:n'∉ρ:=fun hm=>by
     obtain⟨n,hn⟩:=get n' hm
     rcases hown n n' hn (oldn n n' hn (by rw[hn'];simp)) with ⟨b,hb'⟩ |hb' |⟨bs,hb'⟩<;>rw[hb'] at hn'<;>cases hn'
    rw[oM n' hm];exact .inr ⟨Y,hn'⟩
   ·by_cases hm:n'∈ρ
    ·obtain⟨n,hn⟩:=get n' hm
     have hlt':=oldn n n' hn (by rw[hn'];simp)
     rw[bM n n' hn]
     exact hevo.mat n bs ((cM n n' ⟨hn,hlt'⟩).trans hn')
    rw[oM n' hm];exact .inr ⟨bs,hn',.refl bs⟩
   by_cases hm:n'∈ρ
   ·obtain⟨n,hn⟩:=get n' hm
    have hlt':=oldn n n' hn (by rw[hn'];simp)
    rw[bM n n' hn] at hn2
    exact hevo.shape n b ((cM n n' ⟨hn,hlt'⟩).trans hn') hn2
   refine .same (cev b (hlt n' b (.inl hn')) fun n2 hm2 hl2=>?_)
   have:=hd n' n2 b (.inl hn') hl2
   subst this
   exact hm hm2
  refine⟨v,φ',hE,RelV.ren back (fun n n' hM=>bM n n' hM) hres hrv,(fun p hp=>?_),(fun n1 n2 b h3 h4=>?_),(fun n' hn'=>oM n' fun hm=>hn' ?_),(fun b hb' hno=>cev b hb' fun n' hm=>?_),evo⟩
  ·obtain⟨n,hn⟩:=Xcj hp
   obtain⟨n',s'⟩:=p
   rw[Xbs] at hn
   obtain⟨hn1,hn2⟩:=hn
   have hn1':n<ρ.length:=(Xad.1 hn1).1
   have hs:=Xab (show n<σ'.length by omega)
   have h3:=hσ' n _ s' hs hn2
   have h4:=henv'.slot n
   have e:σ'.getD n .unused=σ'[n]:=by simp[show n<σ'.length by omega]
   simp only[e] at h4
   generalize σ'[n]=s at h3 h4
   cases h3 with
   |tok=>
    obtain⟨t,ht,ht2⟩:=h4
    exact⟨t,(bM n n' hn1).trans ht,fun b L e=>⟨(ht2 b L e).1,fun off hx=>(ht2 b L e).2 off (.inl hx)⟩⟩
   |dead=>exact(bM n n' hn1).trans h4
   |own m xs xs' hl hx hr'=>
    obtain⟨b,hb1,hb2⟩:=h4
    exact⟨b,(bM n n' hn1).trans hb1,OwnOK.ren back (fun n n' hM=>bM n n' hM) hb2 (.own m xs xs' hl hx hr') fun off hx=>hb2.hid off (.inl hx)⟩
   |gro m xs xs' hl hx hr'=>
    rcases h4 with ⟨h5,h6⟩ |⟨b,hb1,hb2⟩
    ·exact .inl ⟨Xau (by rw[<-hl,h5];rfl),(bM n n' hn1).trans h6⟩
    exact .inr ⟨b,(bM n n' hn1).trans hb1,OwnOK.ren back (fun n n' hM=>bM n n' hM) hb2 (.own m xs xs' hl hx hr') fun off hx=>hb2.hid off (.inl hx)⟩
   |mat m rows hx=>
    obtain⟨bs,m1,m2,m3,m4⟩:=h4
    refine⟨bs,(bM n n' hn1).trans m1,m2,m3,fun k xs hk=>?_⟩
    rcases m4 k xs hk with m5 |⟨b,m5,m6⟩
    ·exact .inl m5
    exact .inr ⟨b,m5,OwnOK.ren back (fun n n' hM=>bM n n' hM) m6 (.plain (hx xs (Xac hk))) fun off hx=>m6.hid off (.inl hx)⟩
   |mp es clock=>
    obtain⟨b,hb1,hb2⟩:=h4
    exact⟨b,(bM n n' hn1).trans hb1,hb2.blk,fun off hx=>hb2.hid off (.inl hx)⟩
  ·by_cases hm1:n1∈ρ<;>by_cases hm2:n2∈ρ
   ·obtain⟨i1,e1⟩:=get n1 hm1
    obtain⟨i2,e2⟩:=get n2 hm2
    rw[bM i1 n1 e1] at h3
    rw[bM i2 n2 e2] at h4
    have:=henv'.distinct i1 i2 b h3 h4
    subst this
    rw[e1] at e2;cases e2;rfl
   ·obtain⟨i1,e1⟩:=get n1 hm1
    rw[bM i1 n1 e1] at h3
    rw[oM n2 hm2] at h4
    rcases hevo.new b ⟨i1,h3⟩ with ⟨i3,h5⟩ |h5
    ·obtain⟨n3,h6,_,h7⟩:=cinv i3 b h5
     have:=hd n3 n2 b h7.lies h4
     subst this
     exact absurd (Xac h6) hm2
    have:=hlt n2 b h4;omega
   ·obtain⟨i2,e2⟩:=get n2 hm2
    rw[bM i2 n2 e2] at h4
    rw[oM n1 hm1] at h3
    rcases hevo.new b ⟨i2,h4⟩ with ⟨i3,h5⟩ |h5
    ·obtain⟨n3,h6,_,h7⟩:=cinv i3 b h5
     have:=hd n3 n1 b h7.lies h3
     subst this
     exact absurd (Xac h6) hm1
    have:=hlt n1 b h3;omega
   rw[oM n1 hm1] at h3
   rw[oM n2 hm2] at h4
   exact hd n1 n2 b h3 h4
  ·obtain⟨n,hn⟩:=get n' hm
   have hnl:=(Xad.1 hn).1
   exact Xba.2 ⟨(n',σr'[n]'(by omega)),Xac (i:=n) (by rw[Xbs];exact⟨hn,Xab (by omega)⟩),rfl⟩
  obtain⟨n,hn⟩:=get n' hm
  have hnl:=(Xad.1 hn).1
  exact hno (n',σr'[n]'(by omega)) (Xac (i:=n) (by rw[Xbs];exact⟨hn,Xab (by omega)⟩))
def Q6g {a:Act}{f:Operand}{xs:Array Operand}{ts:Array TypeId}{g:FuncId}{first cap vs:List AV}(h:o.op=.call { callee:=.value f,args:=xs,argTypes:=ts })
  (hcall:∀vals w,(callFunc g vals).run P w=.ok (.enter g vals) w) (hvl:vs.length=xs.size) (hr:∀p∈(f,AV.fn (.func g) first cap)::xs.toList.zip vs,RelV X φ w p.2 (a.eval p.1)) :
  ∃vals,(execOp a.eval o).run P w=.ok (.enter g vals) w/\RelV X φ w (.agg (first++vs++cap)) (.agg vals):=by
 have hf:=hr (f,.fn (.func g) first cap) (by simp)
 dsimp only at hf
 cases hfe:a.eval f with
 |func fn us cs=>
  rw[hfe] at hf
  cases hf with
  |fn _ _ _ _ _ hu hc h1 h2=>
   have hvals:RelV X φ w (.agg (first++vs++cap)) (.agg (us++xs.map a.eval++cs)):=.agg _ _ (by simp[hu,hc,hvl]) fun i v hi=>by
    rw[Xaf]
    by_cases hi1:i<first.length
    ·rw[Xan,Xas hi1] at hi
     have:=h1 i v hi
     rw[Xaf] at this
     rwa [Xhi,Xdb (by omega)]
    by_cases hi2:i<first.length+vs.length
    ·rw[Xan,Xam (by omega),Xas (by omega)] at hi
     have hix:i-first.length<xs.size:=by omega
     have:=hr (xs[i-first.length],v) (Xal _ (Xac (i:=i-first.length) (by rw[Xbs];exact⟨by simp[hix],hi⟩)))
     rw[Xhi,Xer (by omega),Xdb (by simp;omega),hu]
     simpa [hix] using this
    rw[Xan,Xam (by omega),Xam (by omega)] at hi
    have:=h2 _ v hi
    rw[Xaf] at this
    rw[Xhi,Xer (by omega),Xer (by simp;omega)]
    have e:i-us.size-(Array.map a.eval xs).size=i-first.length-vs.length:=by simp;omega
    rw[e]
    exact this
   have hexec:(execOp a.eval o).run P w=.ok (.enter g (us++xs.map a.eval++cs)) w:=by
    simp only[execOp,h,resolve,hfe,Deferred.ofValue,invoke,Xav,Xcr,Xao,hcall]
   exact⟨_,hexec,hvals⟩
 |_=>rw[hfe] at hf;cases hf
def Q1j {f:Operand}{xs:Array Operand}{ts:Array TypeId}{g:FuncId}{first cap vs args:List AV}{σ σr σ' σr':List Slot}{res res':AV}(ρ:List Nat) (hnd:ρ.Nodup) (h:o.op=.call { callee:=.value f,args:=xs,argTypes:=ts })
  (hcall:∀vals w,(callFunc g vals).run P w=.ok (.enter g vals) w) (spec:Spec P g args σ res σ') (hvl:vs.length=xs.size) (hargs:Rn (fun n n'=>ρ[n]? = some n'/\n<σ.length) (.agg args) (.agg (first++vs++cap)))
  (hlr:σr.length=σ.length) (hσ:∀(n:Nat) s s',σ[n]? = some s->σr[n]? = some s'->(s≠.dead/\s≠.tok)/\SRn (fun n n'=>ρ[n]? = some n'/\n<σ.length) s s') (hl':σ'.length=ρ.length) (hlr':σr'.length=ρ.length) (hle:σ.length<=ρ.length)
  (hσ':∀(n:Nat) s s',σ'[n]? = some s->σr'[n]? = some s'->SRn (fun n n'=>ρ[n]? = some n') s s') (hres:Rn (fun n n'=>ρ[n]? = some n') res res')
  {bl eff:List (Nat×Slot)}(hbl:(ρ.take σ.length).zip σr++(ρ.drop σ.length).map (fun n=>(n,Slot.unused))=bl) (heff:ρ.zip σr'=eff) {rd:List (Operand×AV)}(hrd:(f,.fn (.func g) first cap)::xs.toList.zip vs=rd) :
  Qd0 P o rd bl res' eff:=by
 subst hbl heff hrd
 intro X φ a w hr hb hd hX hlt next Q K
 obtain⟨vals,h1,h2⟩:=Q6g h hcall hvl hr
 refine Zdj h1 (Quq (C:=Calls P g) (fun _ _ _ _ hR h=>h.mono hR) (E:=fun v e=>e=.returned v) ρ hnd spec hargs hlr hσ hl' hlr' hle hσ' hres h2 hb hd hX hlt |>.mono ?_)
 rintro e w' ⟨v,φ',he,h3,h4,h5,h6,h7,h8⟩
 exact⟨v,he,K v φ' w' h3 h4 h5 h6 h7 h8⟩
end
end
section
section
variable {P : Program} {o : Oper} {X : Nat -> Nat -> Prop} {φ : Nat -> FSlot} {w : World} {r : AV}
def Zdf (place:Nat->Option (Nat×Nat)) (cells:List AV):List (Nat×AV)->Option (List AV)
 |[]=>some cells
 |(i,v)::rest=>match place i with
  |none=>none
  |some (off,size)=>if (stA v).length=size/\off+size<=cells.length/\(stA v).all AV.one=true then Zdf place (Qj7 cells off (stA v)) rest else none
def Zin (off:Nat):∀(l:List Value) (i:Nat) (cs:Array Value),((l.zipIdx i).foldl (fun cs (p:Value×Nat)=>cs.setIfInBounds (off+p.2) p.1) cs).size=cs.size /\
  ∀k,((l.zipIdx i).foldl (fun cs (p:Value×Nat)=>cs.setIfInBounds (off+p.2) p.1) cs)[k]? = if off+i<=k/\k<off+i+l.length/\k<cs.size then l[k-(off+i)]? else cs[k]?
 |[],i,cs=>⟨rfl,fun k=>by simp;intro h1 h2;omega⟩
 |v::l,i,cs=>by
  obtain⟨h1,h2⟩:=Zin off l (i+1) (cs.setIfInBounds (off+i) v)
  simp only[List.zipIdx_cons,Xec]
  refine⟨by rw[h1];simp,fun k=>?_⟩
  rw[h2 k]
  simp only[Array.size_setIfInBounds,Xa5]
  by_cases h3:off+(i+1)<=k/\k<off+(i+1)+l.length/\k<cs.size
  ·rw[Xaz h3,Xaz (by omega)]
   have:k-(off+i)=(k-(off+(i+1)))+1:=by omega
   rw[this,Xeh]
  rw[Xat h3]
  by_cases h4:k=off+i
  ·subst h4
   by_cases h5:off+i<cs.size
   ·rw[Xaz (by omega)]
    simp[h5]
   rw[Xat (by omega)]
   simp[h5]
  rw[Xat (by omega),Array.getElem?_setIfInBounds_ne (by omega)]
def Qxd {place:Nat->Option (Nat×Nat)}:∀(ps:List (Nat×AV)) (us:List (Nat×Value)) (cells:List AV) (cs:Array Value) (out:List AV),ps.length=us.length->(∀(i:Nat) p u,ps[i]? = some p->us[i]? = some u->p.1=u.1/\RelV X φ w p.2 u.2)->cs.size=cells.length->(∀(k:Nat) c,cells[k]? = some c->RelV X φ w c (cs.getD k undef))->Zdf place cells ps=some out ->
  ∃cs',Instr.fill place cs us=some cs'/\cs'.size=out.length/\∀(k:Nat) c,out[k]? = some c->RelV X φ w c (cs'.getD k undef)
 |[],[],cells,cs,out,_,_,hs,hr,h=>by
  cases h
  exact⟨cs,rfl,hs,hr⟩
 |(i,v)::ps,(i',u)::us,cells,cs,out,hl,hp,hs,hr,h=>by
  obtain⟨e,hv⟩:=hp 0 _ _ rfl rfl
  dsimp only at e hv
  subst e
  simp only[Zdf] at h
  cases hpl:place i with
  |none=>rw[hpl] at h;cases h
  |some q=>
   obtain⟨off,size⟩:=q
   rw[hpl] at h
   dsimp only at h
   split at h
   case isFalse=>cases h
   case isTrue hc=>
    obtain⟨c1,c2,c3⟩:=hc
    obtain⟨s1,s2,s3⟩:=Q2o hv c3
    have hfs:=Zin off u.cells.toList 0 cs
    have hz:u.cells.zipIdx.foldl (fun cs (c,j)=>cs.setIfInBounds (off+j) c) cs=(u.cells.toList.zipIdx 0).foldl (fun cs (p:Value×Nat)=>cs.setIfInBounds (off+p.2) p.1) cs:=by
     rw[<-Array.foldl_toList,Array.toList_zipIdx]
    obtain⟨f1,f2⟩:=hfs
    simp only[Instr.fill,hpl]
    rw[Xat (by simp;omega),hz]
    generalize (u.cells.toList.zipIdx 0).foldl (fun cs (p:Value×Nat)=>cs.setIfInBounds (off+p.2) p.1) cs=cs2 at f1 f2
    have hspl:(Qj7 cells off (stA v)).length=cells.length:=by simp[Qj7];omega
    refine Qxd ps us _ cs2 out (by simpa using hl) (fun j p q h1 h2=>hp (j+1) p q (by simpa using h1) (by simpa using h2)) (by rw[f1,hspl,hs]) (fun k c hk=>?_) h
    rw[Xaf,f2 k]
    have hkl:=(Xad.1 hk).1
    simp only[Xdq,Array.length_toList]
    by_cases h3:off<=k/\k<off+u.cells.size/\k<cs.size
    ·rw[Xaz h3]
     have hget:(Qj7 cells off (stA v))[k]? = (stA v)[k-off]? := by
      simp only[Qj7,Xan]
      rw[Xam (by simp;omega),Xas (by simp;omega)]
      congr 1
      simp;omega
     rw[hget] at hk
     have:=s3 (k-off) c hk
     rwa [Xaj] at this
    rw[Xat h3]
    have hget:(Qj7 cells off (stA v))[k]? = cells[k]? := by
     simp only[Qj7,Xan]
     by_cases h6:k<off
     ·rw[Xas (by simp;omega),Xbi,Xaz h6]
     rw[Xam (by simp;omega),Xam (by simp;omega),Xch]
     congr 1
     simp;omega
    rw[hget] at hk
    have:=hr k c hk
    rwa [Xaf] at this
 |[],_::_,_,_,_,hl,_,_,_,_=>by simp at hl
 |_::_,[],_,_,_,hl,_,_,_,_=>by simp at hl
def PL (P:Program):List Field->List (Nat×Nat)->Prop
 |[],[]=>True
 |f::fs,p::ps=>f.offset=p.1/\(∃g,TI P f.type g p.2)/\PL P fs ps
 |_,_=>False
structure TS0 (P:Program) (t:TypeId) (fs:Array Field) (pl:List (Nat×Nat)):Prop where
 und:P.underlying t=some (.struct fs)
 pl:PL P fs.toList pl
def TS (P:Program) (t:TypeId) (pl:List (Nat×Nat)):Prop:=∃fs,TS0 P t fs pl
def Q5t {β α:Type}(f:α->Sem β) (w:World):∀(l:List α) (us:List β),l.length=us.length->(∀(i:Nat) x u,l[i]? = some x->us[i]? = some u->(f x).run P w=.ok u w)->(l.mapM f).run P w=.ok us w
 |[],[],_,_=>rfl
 |x::l,u::us,hl,h=>by
  have h0:=h 0 x u rfl rfl
  have ih:=Q5t f w l us (by simpa using hl) fun i y v hy hv=>h (i+1) y v (by simpa using hy) (by simpa using hv)
  simp only[List.mapM_cons,Xav,h0,Xao,ih]
  rfl
 |[],_::_,hl,_=>by simp at hl
 |_::_,[],hl,_=>by simp at hl
def PL.spec:∀{fs:List Field}{pl:List (Nat×Nat)},PL P fs pl->fs.length=pl.length/\∀(i:Nat) (f:Field) (p:Nat×Nat),fs[i]? = some f->pl[i]? = some p->f.offset=p.1/\∃g,TI P f.type g p.2
 |[],[],_=>⟨rfl,by simp⟩
 |_::_,_::_,h=>by
  obtain⟨h1,h2⟩:=PL.spec h.2.2
  refine⟨by simp[h1],fun i f p hf hp=>?_⟩
  cases i with
  |zero=>simp at hf hp;subst hf hp;exact⟨h.1,h.2.1⟩
  |succ i=>exact h2 i f p (by simpa using hf) (by simpa using hp)
 |[],_::_,h=>h.elim
 |_::_,[],h=>h.elim
def TS0.places {t:TypeId}{fs:Array Field}{pl:List (Nat×Nat)}(h:TS0 P t fs pl) (w:World):(fs.mapM fun f=>do pure (f.offset,<-sizeOf f.type):Sem (Array (Nat×Nat))).run P w=.ok pl.toArray w:=by
 obtain⟨h1,h2⟩:=PL.spec h.pl
 have:=Q5t (P:=P) (fun f:Field=>(do pure (f.offset,<-sizeOf f.type):Sem (Nat×Nat))) w fs.toList pl h1 fun i f p hf hp=>by
  obtain⟨e,g,ti⟩:=h2 i f p hf hp
  simp only[Xav,ti.size,Xao]
  rw[e]
  rfl
 rw[<-Array.toArray_toList (xs:=fs),List.mapM_toArray,map_eq_pure_bind]
 simp only[Xav] at this ⊢
 rw[this]
 rfl
def Qyo {a:Act}{parts:Array (Nat×Operand)}{vs:List AV}(hrd:∀p∈(parts.toList.map (·.2)).zip vs,RelV X φ w p.2 (a.eval p.1)):∀(i:Nat) p u,((parts.toList.map (·.1)).zip vs)[i]? = some p->(parts.map fun (i,x)=>(i,a.eval x)).toList[i]? = some u->p.1=u.1/\RelV X φ w p.2 u.2:=fun i p u hp hu=>by
 obtain⟨k,v⟩:=p
 rw[Xbs] at hp
 obtain⟨hp1,hp2⟩:=hp
 simp only[Xaw] at hp1
 simp only[Array.toList_map,Xaw] at hu
 cases hq:parts.toList[i]? with
 |none=>rw[hq] at hp1;cases hp1
 |some q=>
  rw[hq] at hp1 hu
  cases hp1
  cases hu
  exact⟨rfl,hrd (q.2,v) (Xac (i:=i) (by rw[Xbs];exact⟨by simp[hq],hp2⟩))⟩
def Qbt {t:TypeId}{parts:Array (Nat×Operand)}{vs cs:List AV}{pl:List (Nat×Nat)}{zs:List Value}(h:o.op=.build t parts) (ht0:TS P t pl) (hz:TZ P t zs) (hl:vs.length=parts.size) (hf:Zdf (fun i:Nat=>pl[i]?) (zs.map AV.lit) ((parts.toList.map (·.1)).zip vs)=some cs) {rd:List (Operand×AV)}(hrd:(parts.toList.map (·.2)).zip vs=rd):Qd0 P o rd [] (.agg cs) []:=Qc6 fun X φ a w hr _=>by
 subst hrd
 obtain⟨fs,ht⟩:=ht0
 obtain⟨z,hz1,hz2⟩:=hz.run w
 have hzs:z.cells.size=zs.length:=by rw[<-hz2];simp
 obtain⟨cs',h1,h2,h3⟩:=Qxd (X:=X) (φ:=φ) (w:=w) _ (parts.map fun (i,x)=>(i,a.eval x)).toList (zs.map AV.lit) z.cells cs (by simp[hl]) (Qyo hr) (by simp[hzs]) (fun k c hk=>by
  rw[Xaw] at hk
  cases hzk:zs[k]? with
  |none=>rw[hzk] at hk;cases hk
  |some c'=>
   rw[hzk] at hk
   cases hk
   have:z.cells.getD k undef=c':=by
    have h5:z.cells.toList[k]? = some c':=by rw[hz2];exact hzk
    rw[Xaf,<-Xb5,h5];rfl
   rw[this]
   exact .lit c') hf
 refine⟨.agg cs',?_,.agg _ _ h2 h3⟩
 have hpl:=ht.places w
 have hfun:(fun i:Nat=>(pl.toArray)[i]?)=fun i:Nat=>pl[i]? := by funext i;simp
 simp only[execOp,h,Instr.build,Xav,hz1,Xao,Xa8 ht.und]
 (try simp only[Xav] at hpl)
 rw[hpl]
 simp only[Xao,hfun,h1]
 rfl
def Qwp {t e:TypeId}{n m:Nat}{gg:Bool}{parts:Array (Nat×Operand)}{vs cs:List AV}{zs:List Value}(h:o.op=.build t parts) (ht:P.underlying t=some (.array n e)) (he:TI P e gg m) (hz:TZ P t zs) (hl:vs.length=parts.size) (hf:Zdf (fun i=>some (i*m,m)) (zs.map AV.lit) ((parts.toList.map (·.1)).zip vs)=some cs) {rd:List (Operand×AV)}(hrd:(parts.toList.map (·.2)).zip vs=rd):Qd0 P o rd [] (.agg cs) []:=Qc6 fun X φ a w hr _=>by
 subst hrd
 obtain⟨z,hz1,hz2⟩:=hz.run w
 have hzs:z.cells.size=zs.length:=by rw[<-hz2];simp
 obtain⟨cs',h1,h2,h3⟩:=Qxd (X:=X) (φ:=φ) (w:=w) _ (parts.map fun (i,x)=>(i,a.eval x)).toList (zs.map AV.lit) z.cells cs (by simp[hl]) (Qyo hr) (by simp[hzs]) (fun k c hk=>by
  rw[Xaw] at hk
  cases hzk:zs[k]? with
  |none=>rw[hzk] at hk;cases hk
  |some c'=>
   rw[hzk] at hk
   cases hk
   have:z.cells.getD k undef=c':=by
    have h5:z.cells.toList[k]? = some c':=by rw[hz2];exact hzk
    rw[Xaf,<-Xb5,h5];rfl
   rw[this]
   exact .lit c') hf
 refine⟨.agg cs',?_,.agg _ _ h2 h3⟩
 simp only[execOp,h,Instr.build,Xav,hz1,Xao,Xa8 ht,he.size,h1]
 rfl
def Qy6 {m:Nat}:∀{xs:List (List AV)},(∀x∈xs,x.length=m)->∀(j:Nat) x,xs[j]? = some x->∀i,i<m->xs.flatten[j*m+i]? = x[i]?
 |[],_,j,x,h,_,_=>by simp at h
 |y::xs,hs,0,x,h,i,hi=>by
  simp at h
  subst h
  have:=hs y (by simp)
  rw[Xhr,Xas (by omega)]
  simp
 |y::xs,hs,j+1,x,h,i,hi=>by
  have h0:=hs y (by simp)
  have ih:=Qy6 (fun z hz=>hs z (Xal _ hz)) j x (by simpa using h) i hi
  have e:(j+1)*m+i-y.length=j*m+i:=by rw[Xcu];omega
  have hle:y.length<=(j+1)*m+i:=by rw[Xcu];omega
  rw[Xhr,Xam hle,e]
  exact ih
def Qy5 {m:Nat}:∀{xs:List (List AV)},(∀x∈xs,x.length=m)->xs.flatten.length=xs.length*m
 |[],_=>by simp
 |x::xs,h=>by
  have h1:=h x (by simp)
  have ih:=Qy5 fun y hy=>h y (Xal _ hy)
  rw[Xhr,Xb1,ih,h1,Xa5,Xcu]
  omega
def Qds {t e:TypeId}{n m:Nat}{gg:Bool}{parts:Array (Nat×Operand)}{vs:List AV}{xs:List (List AV)}{zs:List Value}(h:o.op=.buildSlice t n parts) (ht:P.underlying t=some (.slice e)) (he:TI P e gg m) (hz:TZ P e zs) (hzm:zs.length=m) (hm:0<m) (hl:vs.length=parts.size) (hbig:n*m<=16777216)
  (hf:Zdf (fun i=>some (i*m,m)) ((List.range (n*m)).map fun k=>AV.lit (zs.getD (k % m) undef)) ((parts.toList.map (·.1)).zip vs)=some xs.flatten) (hx:(xs.all fun x=>x.length==m)=true) (hxl:xs.length=n) {rd:List (Operand×AV)}(hrd:(parts.toList.map (·.2)).zip vs=rd):Qd0 P o rd [] (.dat m xs) []:=by
 subst hrd
 intro X φ a w hr hb hd hX hlt next Q k
 obtain⟨z,hz1,hz2⟩:=hz.run w
 have hzs:z.cells.size=m:=by rw[<-hzm,<-hz2];simp
 have hxs:∀x∈xs,x.length=m:=fun x hxm=>by simpa using Xa6.1 hx x hxm
 obtain⟨cs',h1,h2,h3⟩:=Qxd (X:=X) (φ:=φ) (w:=w) _ (parts.map fun (i,x)=>(i,a.eval x)).toList _ ((Array.range (n*m)).map (z.cells[· % z.cells.size]!)) _ (by simp[hl]) (Qyo hr) (by simp) (fun k c hk=>by
  rw[Xaw] at hk
  cases hkr:(List.range (n*m))[k]? with
  |none=>rw[hkr] at hk;cases hk
  |some q=>
   rw[hkr] at hk
   cases hk
   have hlt:=(Xad.1 hkr).1
   simp only[Xeu] at hlt
   have hq:q=k:=by rw[Xfx hlt] at hkr;cases hkr;rfl
   subst hq
   have hmod:q % m<m:=Nat.mod_lt _ hm
   have:((Array.range (n*m)).map (z.cells[· % z.cells.size]!)).getD q undef=zs.getD (q % m) undef:=by
    rw[Xaf]
    have e1:z.cells[q % m]? = zs[q % m]? := by rw[<-hz2,Xb5]
    have e2:q % m<z.cells.size:=by omega
    simp only[Array.getElem?_map,Array.getElem?_range,hlt,Xe4,Xca,Xbd,hzs]
    rw[Xaj,<-e1,Xa1 e2]
    simp[e2]
   rw[this]
   exact .lit _) hf
 have hflat:xs.flatten.length=n*m:=by
  rw[Qy5 hxs,hxl]
 have hexec:(execOp a.eval o).run P w=.ok (.value (.slice (some ⟨w.heap.size,0,none⟩) n n)) (w.alloc (.cells cs' e)):=by
  have hn:¬(n*m>2 ^ 24):=by simpa using hbig
  simp only[execOp,h,Instr.buildSlice,Xav,Xa8 ht,Xao,he.size,Xat hn]
  by_cases h0:n*m=0
  ·have e:((Array.range (n*m)).map (z.cells[· % z.cells.size]!))=(Array.range (n*m)).map ((#[]:Array Value)[· % (#[]:Array Value).size]!):=by
    apply Array.ext
    ·simp
    intro i hi _;simp[h0] at hi
   have h1':=h1
   rw[e] at h1'
   simp only[Xaz h0,Xav,Xcr,Xao,h1',newRow,newObj]
   rfl
  simp only[Xat h0,Xav,hz1,Xcr,Xao,h1,newRow,newObj]
  rfl
 have evo:=Evo.alloc0 (X:=X) hlt (.cells cs' e)
 refine Qkd hexec ?_
 have hn1:n<=maxLen:=by
  have:=Xe6 n hm
  simp only[maxLen]
  omega
 refine k _ φ _ (RelV.dat m xs _ _ _ (fun j i=>cs'.getD (j*m+i) undef) ⟨hxl.symm,Xay _,hn1,hxs,fun _=>⟨w.heap.size,0,rfl,fun j x hj i hi=>⟨⟨by simp,fun hx=>Xdl _ (hX _ _ hx),fun q hq=>?_,fun q L hq=>?_,fun q Y hq hy=>?_,fun q bs z hq hz=>?_⟩,?_⟩⟩⟩ (fun j x hj i u hu=>RelV.evo ?_ evo)) (by simp) hd (fun _ _=>rfl) (fun b hb _=>Xbk w _ hb) evo
 ·exact absurd (hlt q _ (.inl hq)) (Xdl _)
 ·exact absurd (hlt q _ (.tok hq)) (Xdl _)
 ·exact absurd (hlt q _ (.far hq hy)) (Xdl _)
 ·exact absurd (hlt q _ (.mat hq hz)) (Xdl _)
 ·have hjl:=(Xad.1 hj).1
  have:=Qft hjl hi
  have hlt':j*m+i<cs'.size:=by rw[h2,hflat,<-hxl];exact this
  rw[Xar,Xe3 _ _ _ _ _ _ (Xel w _)]
  simp[Xaf,hlt']
 have him:i<m:=by
  have:=hxs x (Xac hj)
  have:=(Xad.1 hu).1
  omega
 exact h3 (j*m+i) u (by rw[Qy6 hxs j x hj i him];exact hu)
def Qsh {t e:TypeId}{m bytes n:Nat}{x y:Operand}{k k':IntKind}{c:Int}{zs:List Value}{nm:Nat}{xs:List (List AV)}(h:o.op=.makeSlice t x y) (ht:P.underlying t=some (.slice e)) (he:TE P e m bytes) (hz:TZ P e zs) (hzm:zs.length=m) (h0:0<=c) (hn:c.toNat=n) (hb:(bytes:Int)*c<=281474976710656) (h63:c<=9223372036854775807) (hxs:List.replicate n (zs.map AV.lit)=xs) :
  Qd0 P o [(x,.lit (.int k c)),(y,.lit (.int k' c))] [(nm,.unused)] (.own nm m 0 n) [(nm,.own m xs)]:=Qzq fun X φ a w hrd=>by
 have hx:a.eval x=.int k c:=Qd1 (hrd (x,.lit (.int k c)) (by simp))
 have hy:a.eval y=.int k' c:=Qd1 (hrd (y,.lit (.int k' c)) (by simp))
 obtain⟨i,z,hi,hz',his,hib,hzs'⟩:=he.inf
 have hm:=he.pos
 subst his hib
 have hzl:z.cells.toList=zs:=by
  obtain⟨i2,z2,e1,e2,e3⟩:=hz
  rw[hi] at e1
  cases e1
  rw[hz'] at e2
  cases e2
  exact e3
 have hr:=run_make (P:=P) w t e i z ht hi hz' k k' c c h0 (Xbp _) hb h63
 subst hn
 refine⟨_,_,e,by simp only[execOp,h,hx,hy,Xav,hr,Xao];rfl,?_,fun z' hz2=>?_,fun j z' hj q u hu=>?_,fun φ' w' hf=>.own _ _ _ _ _ _ (Xay _) (by simp only[maxLen];omega) (by rw[hf];simp) fun b hb'=>?_⟩
 ·rw[<-hxs];simp[size_madeCells]
 ·rw[<-hxs] at hz2
  rw[Xed hz2]
  simp[hzm]
 ·rw[<-hxs] at hj
  have hjl:=(Xad.1 hj).1
  simp only[Xgv] at hjl
  rw[Xdn,Xaz hjl] at hj
  cases hj
  rw[Xaw] at hu
  cases hzq:zs[q]? with
  |none=>rw[hzq] at hu;cases hu
  |some v=>
   rw[hzq] at hu
   cases hu
   have hq:=(Xad.1 hzq).1
   rw[hzm] at hq
   have hlt:=Qft hjl hq
   have e1:(j*i.size+q) % i.size=q:=by rw[Xhv,Nat.mul_add_mod];exact Nat.mod_eq_of_lt hq
   have e2:z.cells[q]? = some v:=by rw[<-Xb5,hzl];exact hzq
   have e3:q<z.cells.size:=(Xa3.1 e2).1
   have:(madeCells z.cells (c.toNat*i.size)).getD (j*i.size+q) undef=v:=by
    rw[Xaf]
    unfold madeCells
    simp only[Array.getElem?_map,Array.getElem?_range,hlt,Xe4,Xca,Xbd,hzs',e1]
    have:=(Xa3.1 e2).2
    simp[e3,this]
   rw[this]
   exact .lit v
 rw[hf] at hb'
 cases hb'
 simp
def Qbv {s:AS}{ad:Tmp}{t:TypeId}{g:Bool}{sz n m j i:Nat}{xs:List (List AV)}{c:List AV}{v:AV}(hr:s.regs.getD ad .any=.ref n m j i) (hs:s.slot n=.own m xs) (ht:TI P t g sz) (hg:g=false->sz=1) (hj:xs[j]? = some c) (hi:i+sz<=c.length) (hv:ldA g sz i c=v):Zec P s (.cell ad t) v:=by
 intro X φ0 w0 φ a w hsim
 have h1:=hsim.opd (.tmp ad)
 simp only[opd,Act.eval] at h1
 rw[hr] at h1
 have h2:=hsim.env.slot n
 rw[hs] at h2
 obtain⟨b,hb,hown⟩:=h2
 have hx:a.tmps.getD ad undef=_:=Qs5 h1 hb
 obtain⟨u,hu,hrel⟩:=(hown.cells hj).load ht hi hg
 refine⟨u,?_,hv▸hrel⟩
 simp only[Q0t,hx,asAddr,Xav,Xcr,Xao,hu]
end
end
section
def LPw (R:AV->AV->Prop):List AV->List AV->Prop
 |[],[]=>True
 |a::l,b::k=>R a b/\LPw R l k
 |_,_=>False
section
variable {R : AV -> AV -> Prop}
def LPw.refl (h:∀a,R a a):∀l:List AV,LPw R l l
 |[]=>trivial
 |a::l=>⟨h a,LPw.refl h l⟩
def LPw.length:∀{l k:List AV},LPw R l k->l.length=k.length
 |[],[],_=>rfl
 |_::_,_::_,h=>by simp[LPw.length h.2]
def LPw.get:∀{l k:List AV},LPw R l k->∀(t:Nat) (b:AV),k[t]? = some b->∃a,l[t]? = some a/\R a b
 |[],[],_,_,_,hb=>by simp at hb
 |_::_,_::_,h,0,b,hb=>by simp at hb;subst hb;exact⟨_,rfl,h.1⟩
 |_::_,_::_,h,t+1,b,hb=>by simpa using LPw.get h.2 t b (by simpa using hb)
def LPw.set (h:∀a,R a a):∀(l:List AV) (t:Nat) {a b:AV},l[t]? = some a->R a b->LPw R l (l.set t b)
 |[],_,_,_,ht,_=>by simp at ht
 |x::l,0,a,b,ht,hr=>by simp at ht;subst ht;exact⟨hr,LPw.refl h l⟩
 |x::l,t+1,a,b,ht,hr=>⟨h x,LPw.set h l t (by simpa using ht) hr⟩
end
inductive SPw (R:AV->AV->Prop):Slot->Slot->Prop where
 |unused:SPw R .unused .unused
 |dead:SPw R .dead .dead
 |tok:SPw R .tok .tok
 |own (m:Nat) (xs xs':List (List AV)) (hl:xs.length=xs'.length) (h:∀(j:Nat) x x',xs[j]? = some x->xs'[j]? = some x'->LPw R x x'):SPw R (.own m xs) (.own m xs')
 |gro (m:Nat) (xs xs':List (List AV)) (hl:xs.length=xs'.length) (h:∀(j:Nat) x x',xs[j]? = some x->xs'[j]? = some x'->LPw R x x'):SPw R (.gro m xs) (.gro m xs')
 |far (J:(Nat->Nat->Prop)->(Nat->Nat->Prop)->World->Prop):SPw R (.far J) (.far J)
 |mat (m:Nat) (rows:List (List (List AV))) (h:∀r∈rows,∀x∈r,LPw R x x):SPw R (.mat m rows) (.mat m rows)
 |mp (es:Array MapEntry) (clock:Nat):SPw R (.mp es clock) (.mp es clock)
def SPw.refl {R:AV->AV->Prop}(h:∀a,R a a) (s:Slot):SPw R s s:=by
 cases s with
 |unused=>exact .unused
 |dead=>exact .dead
 |tok=>exact .tok
 |own m xs=>exact .own m xs xs rfl fun j x x' h1 h2=>by rw[h1] at h2;cases h2;exact LPw.refl h x
 |gro m xs=>exact .gro m xs xs rfl fun j x x' h1 h2=>by rw[h1] at h2;cases h2;exact LPw.refl h x
 |far J=>exact .far J
 |mat m rows=>exact .mat m rows fun _ _ x _=>LPw.refl h x
 |mp es clock=>exact .mp es clock
section
variable {P : Program} {X : Nat -> Nat -> Prop} {φ0 φ φ' : Nat -> FSlot} {w0 w : World} {ro : Option Nat} {Q : Exit -> AS -> Prop} {s : AS} {c : Code} {R : AV -> AV -> Prop}
def OwnOK.pw {b m:Nat}{xs xs':List (List AV)}(h:OwnOK X φ w b m xs) (hR:∀a a' v,R a a'->RelV X φ w a v->RelV X φ' w a' v) (hl:xs.length=xs'.length) (hp:∀(j:Nat) x x',xs[j]? = some x->xs'[j]? = some x'->LPw R x x'):OwnOK X φ' w b m xs':=by
 obtain⟨cur,ty,h1,h2,h3,h4⟩:=h.blk
 have back:∀(j:Nat) (x':List AV),xs'[j]? = some x'->∃x,xs[j]? = some x:=fun j x' hj=>⟨_,Xab (by have:=(Xad.1 hj).1;omega)⟩
 refine⟨⟨cur,ty,h1,by rw[<-hl];exact h2,fun x' hx'=>?_,fun j x' hj i a' hi=>?_⟩,h.hid⟩
 ·obtain⟨j,hj,rfl⟩:=Xdz hx'
  have hj':=Xab hj
  obtain⟨x,hxj⟩:=back j _ hj'
  rw[<-(hp j x _ hxj hj').length]
  exact h3 x (Xac hxj)
 obtain⟨x,hxj⟩:=back j x' hj
 obtain⟨a,ha,hra⟩:=(hp j x x' hxj hj).get i a' hi
 exact hR a a' _ hra (h4 j x hxj i a ha)
def Mor (X:Nat->Nat->Prop) (φ0:Nat->FSlot) (w0:World) (s s':AS):Prop:=∀φ a w,Sim X φ0 w0 φ s a w->∃φ',Sim X φ0 w0 φ' s' a w
def Mor.rfl:Mor X φ0 w0 s s:=fun φ _ _ h=>⟨φ,h⟩
def Mor.trans {s1 s2 s3:AS}(h:Mor X φ0 w0 s1 s2) (k:Mor X φ0 w0 s2 s3):Mor X φ0 w0 s1 s3:=fun φ a w hs=>by
 obtain⟨φ',h1⟩:=h φ a w hs
 exact k φ' a w h1
def Ztw {s':AS}(h:Mor X φ0 w0 s s') (k:AWp P X φ0 w0 ro c Q s'):AWp P X φ0 w0 ro c Q s:=fun φ a w hs=>by
 obtain⟨φ',h1⟩:=h φ a w hs
 exact k φ' a w h1
def Zd5 {s':AS}{n:Nat}(h:Mor X φ0 w0 s s') (k:Qti P X φ0 w0 ro c Q n s'):Qti P X φ0 w0 ro c Q n s:=fun φ a w hs=>by
 obtain⟨φ',h1⟩:=h φ a w hs
 exact k φ' a w h1
inductive RW (M:Nat->Nat->Prop):AV->AV->Prop where
 |any (a:AV):RW M a .any
 |rn {a a':AV}(h:Rn M a a'):RW M a a'
 |dat (n:Nat) (ty:TypeId) (m:Nat) (xs:List (List AV)) (hx:∀x∈xs,∀a∈x,NLt 0 a):RW M (.acc n ty m xs) (.dat m xs)
 |nil (m:Nat):RW M (.lit (.slice none 0 0)) (.dat m [])
 |agg (l l':List AV) (hl:l.length=l'.length) (h:∀(i:Nat) a a',l[i]? = some a->l'[i]? = some a'->RW M a a'):RW M (.agg l) (.agg l')
def Zrz (ρ:List Nat) (hnd:ρ.Nodup) {k0:Nat}(h0:∀n,k0<=n->φ0 n=.unused) (hid:∀n,n<k0->ρ[n]? = some n) {regs':List AV}{own':List Slot}(hr:LPw (RW fun n n'=>ρ[n']? = some n) s.regs regs') (hl:own'.length=ρ.length)
  (hs:∀(n n':Nat) s2,ρ[n']? = some n->own'[n']? = some s2->SPw (RW fun n n'=>ρ[n']? = some n) (s.slot n) s2):Mor X φ0 w0 s ⟨regs',own'⟩:=fun φ a w hsim=>by
 let φ':Nat->FSlot:=fun n'=>match ρ[n']? with |some n=>φ n |none=>.unused
 have hM:∀n n',ρ[n']? = some n->φ' n'=φ n:=fun n n' e=>by
  show(match ρ[n']? with |some n=>φ n |none=>_)=_
  rw[e]
 have inv:∀n' b,(φ' n').lies b->∃n,ρ[n']? = some n/\(φ n).lies b:=fun n' b hb=>by
  cases e:ρ[n']? with
  |none=>
   have:φ' n'=.unused:=by
    show(match ρ[n']? with |some n=>φ n |none=>_)=_
    rw[e]
   rw[this] at hb
   exact(Qf1 hb).elim
  |some n=>rw[hM n n' e] at hb;exact⟨n,rfl,hb⟩
 have fwd:∀b off,DataAt X φ w b off->DataAt X φ' w b off:=fun b off hd=>⟨hd.lt,hd.hid,fun n' hn=>by
  obtain⟨n,e,_⟩:=inv n' b (.inl hn)
  rw[hM n n' e] at hn
  exact hd.own n hn,fun n' L hn=>by
  obtain⟨n,e,_⟩:=inv n' b (.tok hn)
  rw[hM n n' e] at hn
  exact hd.tok n L hn,fun n' Y hn hy=>by
  obtain⟨n,e,_⟩:=inv n' b (.far hn hy)
  rw[hM n n' e] at hn
  exact hd.far n Y hn hy,fun n' bs k hn hk=>by
  obtain⟨n,e,_⟩:=inv n' b (.mat hn hk)
  rw[hM n n' e] at hn
  exact hd.mat n bs k hn hk⟩
 have hR:∀a a' v,RW (fun n n'=>ρ[n']? = some n) a a'->RelV X φ w a v->RelV X φ' w a' v:=fun a a' v hra=>by
  induction hra generalizing v with
  |agg l l' hl _ ih=>
   intro hv
   cases hv with
   |agg _ vs hs h=>
    refine .agg _ vs (hs.trans hl) fun i a' hi=>?_
    have hlt:=(Xad.1 hi).1
    exact ih i _ a' (Xab (by omega)) hi _ (h i _ (Xab (by omega)))
  |any=>exact fun _=>.any v
  |rn hrn=>exact RelV.ren fwd hM hrn
  |dat n ty m xs hx=>
   intro hv
   cases hv with
   |acc _ _ _ _ A len cap g ok hr hu ht=>exact .dat m xs A len cap g (ok.env fwd) (fun j x hj i a hi=>(hr j x hj i a hi).env (k:=0) (fun n hn=>absurd hn (Xcl n)) fwd (hx x (Xac hj) a (Xac hi)))
  |nil m=>
   intro hv
   have:=Qd1 hv
   subst this
   exact .dat m [] none 0 0 (fun _ _=>undef) (DatOK.nil m none 0 _ (Xbg _)) (by simp)
 have inj:∀(n1 n2 n':Nat),ρ[n1]? = some n'->ρ[n2]? = some n'->n1=n2:=fun n1 n2 n' h1 h2=>by
  obtain⟨l1,e1⟩:=Xad.1 h1
  obtain⟨l2,e2⟩:=Xad.1 h2
  exact(Xgp hnd).1 (e1.trans e2.symm)
 have low:∀n,φ0 n≠.unused->φ' n=φ n:=fun n hn=>by
  have hlt:n<k0:=by
   rcases Xcm n k0 with h' |h'
   ·exact h'
   exact absurd (h0 n h') hn
  exact hM n n (hid n hlt)
 refine⟨φ',hsim.low,hsim.defers.to fun D _ hn=>⟨rfl,fun ⟨n',hb⟩=>hn (by obtain⟨n,_,h⟩:=inv n' D hb;exact⟨n,h⟩)⟩,hsim.size.trans hr.length,fun t v hv=>?_,⟨fun n'=>?_,fun n1 n2 b h1 h2=>?_,hsim.env.hid⟩,?_⟩
 ·obtain⟨u,hu,hra⟩:=hr.get t v hv
  exact hR u v _ hra (hsim.regs t u hu)
 ·show SlotOK X φ' w n' (own'.getD n' .unused)
  cases e:ρ[n']? with
  |none=>
   have hge:own'.length<=n':=by rw[hl];exact Xh4.1 e
   simp only[Xaj,Xbb hge,Xei]
   show(match ρ[n']? with |some n=>φ n |none=>_)=_
   rw[e]
  |some n=>
   have hlt:n'<own'.length:=by rw[hl];exact(Xad.1 e).1
   have hg:=Xab hlt
   have hsp:=hs n n' _ e hg
   simp only[Xaj,hg,Xbd]
   have hok:=hsim.env.slot n
   generalize s.slot n=s1 at hsp hok
   generalize own'[n']=s2 at hsp
   cases hsp with
   |unused=>exact(hM n n' e).trans hok
   |dead=>exact(hM n n' e).trans hok
   |tok=>obtain⟨t,ht,ht'⟩:=hok;exact⟨t,(hM n n' e).trans ht,ht'⟩
   |own m xs xs' hl' hp=>obtain⟨b,hb,hown⟩:=hok;exact⟨b,(hM n n' e).trans hb,hown.pw hR hl' hp⟩
   |gro m xs xs' hl' hp=>
    rcases hok with ⟨h1,h2⟩ |⟨b,hb,hown⟩
    ·exact .inl ⟨Xau (by rw[<-hl',h1];rfl),(hM n n' e).trans h2⟩
    exact .inr ⟨b,(hM n n' e).trans hb,hown.pw hR hl' hp⟩
   |far J=>
    obtain⟨Y,D,B,f1,f2,f3⟩:=hok
    exact⟨Y,D,B,(hM n n' e).trans f1,f2,f3.own,fun b off hx hy=>⟨fwd b off (f3.dat b off hx hy).1,(f3.dat b off hx hy).2⟩,f3.os,f3.tape,f3.output,f3.size⟩
   |mat m rows hp=>
    obtain⟨bs,m1,m2,m3,m4⟩:=hok
    refine⟨bs,(hM n n' e).trans m1,m2,m3,fun k xs hk=>?_⟩
    rcases m4 k xs hk with m5 |⟨b,m5,m6⟩
    ·exact .inl m5
    exact .inr ⟨b,m5,m6.pw hR rfl fun j x x' h1 h2=>by rw[h1] at h2;cases h2;exact hp xs (Xac hk) x (Xac h1)⟩
   |mp es clock=>obtain⟨b,hb,hown⟩:=hok;exact⟨b,(hM n n' e).trans hb,hown⟩
 ·obtain⟨m1,e1,h3⟩:=inv n1 b h1
  obtain⟨m2,e2,h4⟩:=inv n2 b h2
  have:=hsim.env.distinct m1 m2 b h3 h4
  subst this
  exact inj n1 n2 m1 e1 e2
 have ev:=hsim.evo
 refine⟨ev.os,ev.tape,ev.output,ev.size,ev.blk,fun b ⟨n',hb⟩=>?_,fun b off hd=>?_,fun n hn=>?_,fun n b hn=>?_,fun n t hn=>?_,fun n Y hn=>?_,fun n bs hn=>?_,fun n b hn hn'=>?_⟩
 ·obtain⟨n,_,hb'⟩:=inv n' b hb
  exact ev.new b ⟨n,hb'⟩
 ·obtain⟨h1,h2⟩:=ev.dat b off hd
  exact⟨fwd b off h1,h2⟩
 ·rw[low n (by rw[hn];simp)];exact ev.dead n hn
 ·rw[low n (by rw[hn];simp)];exact ev.own n b hn
 ·rw[low n (by rw[hn];simp)];exact ev.tok n t hn
 ·rw[low n (by rw[hn];simp)];exact ev.far n Y hn
 ·rw[low n (by rw[hn];simp)];exact ev.mat n bs hn
 rw[low n (by rw[hn];simp)] at hn';exact ev.shape n b hn hn'
def Qug {regs':List AV}{own':List Slot}(h:∀φ w,Qo4 X φ w s.slot->∃φ',Evo X φ w φ' w/\Qdu φ'/\(∀n,SlotOK X φ' w n (own'.getD n .unused))/\(∀a a' v,R a a'->RelV X φ w a v->RelV X φ' w a' v)) (hr:LPw R s.regs regs'):Mor X φ0 w0 s ⟨regs',own'⟩:=fun φ a w hsim=>by
 obtain⟨φ',h1,h2,h3,h4⟩:=h φ w hsim.env
 exact⟨φ',hsim.low,hsim.defers.evo h1,hsim.size.trans hr.length,fun t v hv=>by
  obtain⟨u,hu,hra⟩:=hr.get t v hv
  exact h4 u v _ hra (hsim.regs t u hu),⟨h3,h2,hsim.env.hid⟩,hsim.evo.trans h1⟩
inductive Fz (n m:Nat) (xs:List (List AV)):AV->AV->Prop where
 |same (a:AV):Fz n m xs a a
 |any (a:AV):Fz n m xs a .any
 |fz (j len:Nat) (ys:List (List AV)) (h:j+len<=xs.length) (hy:(xs.drop j).take len=ys):Fz n m xs (.own n m j len) (.dat m ys)
 |ptr (i:Nat) (cs:List AV) (h:xs=[cs]):Fz n m xs (.ref n m 0 i) (.dptr cs i)
 |agg (l l':List AV) (hl:l.length=l'.length) (h:∀(i:Nat) a a',l[i]? = some a->l'[i]? = some a'->Fz n m xs a a'):Fz n m xs (.agg l) (.agg l')
def Fz.rel {n m:Nat}{xs:List (List AV)}(henv:Qo4 X φ w s.slot) (hs:s.slot n=.own m xs) (evo:Evo X φ w (upd φ n .dead) w) {a a':AV}(h:Fz n m xs a a'):∀{v:Value},RelV X φ w a v->RelV X (upd φ n .dead) w a' v:=by
 have hslot:=henv.slot n
 rw[hs] at hslot
 obtain⟨b,hb,hown⟩:=hslot
 induction h with
 |same a=>exact fun hv=>hv.evo evo
 |any a=>exact fun {v} _=>.any v
 |fz j len ys hle hy=>
  intro v hv
  obtain⟨cap,hc,hcm,rfl⟩:=Q76 hv hb
  obtain⟨cur,ty,h1,h2,h3,h4⟩:=hown.blk
  have hget:∀(q:Nat) y,ys[q]? = some y->xs[j+q]? = some y:=fun q y hq=>by
   subst hy
   rw[Xbi] at hq
   split at hq
   ·rwa [Xch] at hq
   cases hq
  have hlen:ys.length=len:=by subst hy;simp;omega
  refine .dat m ys _ len cap (fun q i=>cur.getD ((j+q)*m+i) undef) ⟨hlen.symm,hc,hcm,fun y hy'=>?_,fun _=>⟨b,j*m,rfl,fun q y hq i hi=>⟨⟨hown.lt,hown.hid _,fun k hk=>?_,fun k L hk=>?_,fun k Y hk hy=>?_,fun k bs z hk hz=>?_⟩,?_⟩⟩⟩ (fun q y hq i a hi=>(h4 (j+q) y (hget q y hq) i a hi).evo evo)
  ·obtain⟨q,hq,rfl⟩:=Xdz hy'
   exact h3 _ (Xac (hget q _ (Xab hq)))
  ·unfold upd at hk
   split at hk
   ·cases hk
   exact absurd (henv.distinct k n b (.inl hk) (.inl hb)) (by assumption)
  ·unfold upd at hk
   split at hk
   ·cases hk
   exact absurd (henv.distinct k n b (.tok hk) (.inl hb)) (by assumption)
  ·unfold upd at hk
   split at hk
   ·cases hk
   exact absurd (henv.distinct k n b (.far hk hy) (.inl hb)) (by assumption)
  ·unfold upd at hk
   split at hk
   ·cases hk
   exact absurd (henv.distinct k n b (.mat hk hz) (.inl hb)) (by assumption)
  have hjl:=(Xad.1 (hget q y hq)).1
  have hlt:=Qft hjl hi
  have hlt':(j+q)*m+i<cur.size:=by omega
  rw[<-Xcu,Xe3 w b _ cur _ _ h1]
  simp[Xaf,hlt']
 |ptr i cs hxs=>
  intro v hv
  cases hv with
  |ref _ _ _ _ A hn0 hA=>
   obtain⟨cur,ty,h1,h2,h3,h4⟩:=hown.blk
   rw[hA b hb,Xgs]
   have hg:xs[0]? = some cs:=by rw[hxs];rfl
   have hm:cs.length=m:=h3 _ (Xac hg)
   have hlt0:=(Xad.1 hg).1
   refine .dptr cs i b 0 (fun k=>cur.getD k undef) (fun q hq=>⟨⟨hown.lt,hown.hid _,fun k hk=>?_,fun k L hk=>?_,fun k Y hk hy=>?_,fun k bs z hk hz=>?_⟩,?_⟩) (fun k a ha=>?_)
   ·unfold upd at hk
    split at hk
    ·cases hk
    exact absurd (henv.distinct k n b (.inl hk) (.inl hb)) (by assumption)
   ·unfold upd at hk
    split at hk
    ·cases hk
    exact absurd (henv.distinct k n b (.tok hk) (.inl hb)) (by assumption)
   ·unfold upd at hk
    split at hk
    ·cases hk
    exact absurd (henv.distinct k n b (.far hk hy) (.inl hb)) (by assumption)
   ·unfold upd at hk
    split at hk
    ·cases hk
    exact absurd (henv.distinct k n b (.mat hk hz) (.inl hb)) (by assumption)
   ·have hlt:=Qft hlt0 (show q<m by omega)
    have hlt':0+q<cur.size:=by omega
    rw[Xe3 w b _ cur _ _ h1]
    simp[Xaf,show q<cur.size by omega]
   have hk:=(Xad.1 ha).1
   have:=(h4 0 cs hg k a ha).evo evo
   rw[Xgs,Xar] at this
   exact this
 |agg l l' hl _ ih=>
  intro v hv
  cases hv with
  |agg _ vs hs' hr=>
   refine .agg _ vs (hs'.trans hl) fun i a' hi=>?_
   have hlt:=(Xad.1 hi).1
   exact ih i _ a' (Xab (by omega)) hi (hr i _ (Xab (by omega)))
def Qvj (n:Nat) {m:Nat}{xs:List (List AV)}(hs:s.slot n=.own m xs) {regs':List AV}{own':List Slot}(hr:LPw (Fz n m xs) s.regs regs') (hd:own'.getD n .unused=.dead) (ho:∀k,k≠n->SPw (Fz n m xs) (s.slot k) (own'.getD k .unused)):Mor X φ0 w0 s ⟨regs',own'⟩:=
 Qug (R:=Fz n m xs) (fun φ w henv=>by
  have hslot:=henv.slot n
  rw[hs] at hslot
  obtain⟨b,hb,hown⟩:=hslot
  have evo:Evo X φ w (upd φ n .dead) w:=by
   refine⟨rfl,rfl,rfl,Xay _,fun _ _ _=>rfl,fun b' ⟨q,hq⟩=>?_,fun b' off hdat=>⟨⟨hdat.lt,hdat.hid,fun q hq=>?_,fun q L hq=>?_,fun q Y hq=>?_,fun q bs z hq=>?_⟩,rfl⟩,fun q hq=>?_,fun q b' hq=>?_,fun q t hq=>?_,fun q Y hq=>?_,fun q bs hq=>?_,fun _ _ _ _=>.same rfl⟩
   ·unfold upd at hq
    split at hq
    ·first |exact(Qba hq).elim |exact(Qe7 hq).elim
    exact .inl ⟨q,hq⟩
   ·unfold upd at hq
    split at hq
    ·cases hq
    exact hdat.own q hq
   ·unfold upd at hq
    split at hq
    ·cases hq
    exact hdat.tok q L hq
   ·unfold upd at hq
    split at hq
    ·cases hq
    exact hdat.far q Y hq
   ·unfold upd at hq
    split at hq
    ·cases hq
    exact hdat.mat q bs z hq
   ·unfold upd;split<;>simp[hq]
   ·unfold upd;split
    ·exact .inr rfl
    exact .inl hq
   ·unfold upd;split
    ·exact .inl rfl
    exact .inr ⟨hq,fun _ _ _=>rfl⟩
   ·unfold upd;split
    ·exact .inl rfl
    exact .inr ⟨Y,hq⟩
   unfold upd;split
   ·exact .inl rfl
   exact .inr ⟨bs,hq,.refl bs⟩
  have hR:∀a a' v,Fz n m xs a a'->RelV X φ w a v->RelV X (upd φ n .dead) w a' v:=fun a a' v hf hv=>Fz.rel henv hs evo hf hv
  refine⟨upd φ n .dead,evo,fun q q' b' h1 h2=>?_,fun q=>?_,hR⟩
  ·unfold upd at h1 h2
   split at h1
   ·first |exact(Qba h1).elim |exact(Qe7 h1).elim
   split at h2
   ·first |exact(Qba h2).elim |exact(Qe7 h2).elim
   exact henv.distinct q q' b' h1 h2
  by_cases e:q=n
  ·subst e
   rw[hd]
   show upd φ q .dead q=.dead
   simp[upd]
  have hsp:=ho q e
  have hok:=henv.slot q
  have eq:upd φ n .dead q=φ q:=by simp[upd,e]
  generalize s.slot q=s1 at hsp hok
  generalize own'.getD q .unused=s2 at hsp
  cases hsp with
  |unused=>exact eq.trans hok
  |dead=>exact eq.trans hok
  |tok=>obtain⟨t,ht,ht'⟩:=hok;exact⟨t,eq.trans ht,ht'⟩
  |own m xs xs' hl' hp=>obtain⟨b,hb,hown⟩:=hok;exact⟨b,eq.trans hb,hown.pw hR hl' hp⟩
  |gro m xs xs' hl' hp=>
   rcases hok with ⟨h1,h2⟩ |⟨b,hb,hown⟩
   ·exact .inl ⟨Xau (by rw[<-hl',h1];rfl),eq.trans h2⟩
   exact .inr ⟨b,eq.trans hb,hown.pw hR hl' hp⟩
  |far J=>
   obtain⟨Y,D,B,f1,f2,f3⟩:=hok
   exact⟨Y,D,B,eq.trans f1,f2,f3.own,fun b off hx hy=>⟨(evo.dat b off (f3.dat b off hx hy).1).1,(f3.dat b off hx hy).2⟩,f3.os,f3.tape,f3.output,f3.size⟩
  |mat m rows hp=>
   obtain⟨bs,m1,m2,m3,m4⟩:=hok
   refine⟨bs,eq.trans m1,m2,m3,fun k xs hk=>?_⟩
   rcases m4 k xs hk with m5 |⟨b,m5,m6⟩
   ·exact .inl m5
   exact .inr ⟨b,m5,m6.pw hR rfl fun j x x' h1 h2=>by rw[h1] at h2;cases h2;exact hp xs (Xac hk) x (Xac h1)⟩
  |mp es clock=>obtain⟨b,hb,hown⟩:=hok;exact⟨b,eq.trans hb,hown⟩) hr
inductive Op' (n:Nat) (ty:TypeId) (m:Nat):AV->AV->Prop where
 |same (a:AV):Op' n ty m a a
 |nil:Op' n ty m (.lit (.slice none 0 0)) (.acc n ty m [])
def Zbc (n:Nat) (ty:TypeId) (m:Nat) (hs:s.slot n=.unused) {regs':List AV}{own':List Slot}(hr:LPw (Op' n ty m) s.regs regs') (hd:own'.getD n .unused=.tok) (ho:∀k,k≠n->SPw (Op' n ty m) (s.slot k) (own'.getD k .unused)):Mor X φ0 w0 s ⟨regs',own'⟩:=
 Qug (R:=Op' n ty m) (fun φ w henv=>by
  have hn:φ n=.unused:=by
   have:=henv.slot n
   rw[hs] at this
   exact this
  have ne:∀q,φ q≠.unused->q≠n:=fun q hq e=>hq (e▸hn)
  have evo:Evo X φ w (upd φ n (.tok none)) w:=by
   refine⟨rfl,rfl,rfl,Xay _,fun _ _ _=>rfl,fun b' ⟨q,hq⟩=>?_,fun b' off hdat=>⟨⟨hdat.lt,hdat.hid,fun q hq=>?_,fun q L hq=>?_,fun q Y hq=>?_,fun q bs z hq=>?_⟩,rfl⟩,fun q hq=>?_,fun q b' hq=>?_,fun q t hq=>?_,fun q Y hq=>?_,fun q bs hq=>?_,fun _ _ _ _=>.same rfl⟩
   ·unfold upd at hq
    split at hq
    ·first |exact(Qba hq).elim |exact(Qe7 hq).elim
    exact .inl ⟨q,hq⟩
   ·unfold upd at hq
    split at hq
    ·cases hq
    exact hdat.own q hq
   ·unfold upd at hq
    split at hq
    ·cases hq
    exact hdat.tok q L hq
   ·unfold upd at hq
    split at hq
    ·cases hq
    exact hdat.far q Y hq
   ·unfold upd at hq
    split at hq
    ·cases hq
    exact hdat.mat q bs z hq
   ·unfold upd;rw[Xat (ne q (by rw[hq];simp))];exact hq
   ·unfold upd;rw[Xat (ne q (by rw[hq];simp))];exact .inl hq
   ·unfold upd;rw[Xat (ne q (by rw[hq];simp))];exact .inr ⟨hq,fun _ _ _=>rfl⟩
   ·unfold upd;rw[Xat (ne q (by rw[hq];simp))];exact .inr ⟨Y,hq⟩
   unfold upd;rw[Xat (ne q (by rw[hq];simp))];exact .inr ⟨bs,hq,.refl bs⟩
  have hR:∀a a' v,Op' n ty m a a'->RelV X φ w a v->RelV X (upd φ n (.tok none)) w a' v:=fun a a' v hf hv=>by
   cases hf with
   |same=>exact hv.evo evo
   |nil=>
    have:=Qd1 hv
    subst this
    exact .acc n ty m [] none 0 0 (fun _ _=>undef) (DatOK.nil m none 0 _ (Xbg _)) (by simp) (by simp[upd]) (fun t ht=>by
     have e:t=none:=by simp[upd] at ht;exact ht.symm
     subst e
     exact⟨rfl,rfl⟩)
  refine⟨upd φ n (.tok none),evo,fun q q' b' h1 h2=>?_,fun q=>?_,hR⟩
  ·unfold upd at h1 h2
   split at h1
   ·first |exact(Qba h1).elim |exact(Qe7 h1).elim
   split at h2
   ·first |exact(Qba h2).elim |exact(Qe7 h2).elim
   exact henv.distinct q q' b' h1 h2
  by_cases e:q=n
  ·subst e
   rw[hd]
   exact⟨none,by simp[upd],fun b L e=>by cases e⟩
  have hsp:=ho q e
  have hok:=henv.slot q
  have eq:upd φ n (.tok none) q=φ q:=by simp[upd,e]
  generalize s.slot q=s1 at hsp hok
  generalize own'.getD q .unused=s2 at hsp
  cases hsp with
  |unused=>exact eq.trans hok
  |dead=>exact eq.trans hok
  |tok=>obtain⟨t,ht,ht'⟩:=hok;exact⟨t,eq.trans ht,ht'⟩
  |own m xs xs' hl' hp=>obtain⟨b,hb,hown⟩:=hok;exact⟨b,eq.trans hb,hown.pw hR hl' hp⟩
  |gro m xs xs' hl' hp=>
   rcases hok with ⟨h1,h2⟩ |⟨b,hb,hown⟩
   ·exact .inl ⟨Xau (by rw[<-hl',h1];rfl),eq.trans h2⟩
   exact .inr ⟨b,eq.trans hb,hown.pw hR hl' hp⟩
  |far J=>
   obtain⟨Y,D,B,f1,f2,f3⟩:=hok
   exact⟨Y,D,B,eq.trans f1,f2,f3.own,fun b off hx hy=>⟨(evo.dat b off (f3.dat b off hx hy).1).1,(f3.dat b off hx hy).2⟩,f3.os,f3.tape,f3.output,f3.size⟩
  |mat m rows hp=>
   obtain⟨bs,m1,m2,m3,m4⟩:=hok
   refine⟨bs,eq.trans m1,m2,m3,fun k xs hk=>?_⟩
   rcases m4 k xs hk with m5 |⟨b,m5,m6⟩
   ·exact .inl m5
   exact .inr ⟨b,m5,m6.pw hR rfl fun j x x' h1 h2=>by rw[h1] at h2;cases h2;exact hp xs (Xac hk) x (Xac h1)⟩
  |mp es clock=>obtain⟨b,hb,hown⟩:=hok;exact⟨b,eq.trans hb,hown⟩) hr
end
end
section
def w64 (x:Int):Int:=IntKind.i64.wrap x
abbrev I (x:Int):AV:=.lit (.int .i64 x)
abbrev K (k:IntKind) (x:Int):AV:=.lit (.int k x)
abbrev B (b:Bool):AV:=.lit (.bool b)
abbrev nilS:AV:=.lit (.slice none 0 0)
def getI {α:Type}(l:List α) (i:Int):Option α:=if 0<=i then l[i.toNat]? else none
def chk {β:Type}(b:Bool) (k:Option β):Option β:=bif b then k else none
def Q5z {α:Type}{l:List α}{i:Int}{x:α}(h:getI l i=some x):0<=i/\l[i.toNat]? = some x:=by
 unfold getI at h
 split at h
 ·exact⟨by assumption,h⟩
 cases h
def Q3s {α β:Type}{o:Option α}{f:α->Option β}{r:β}(h:o.bind f=some r):∃x,o=some x/\f x=some r:=Option.bind_eq_some_iff.1 h
def Zjq {β:Type}{c:Bool}{o:Option β}{r:β}(h:chk c o=some r):c=true/\o=some r:=by
 cases c
 ·cases h
 exact⟨rfl,h⟩
def Zh4 {α:Type}{l:List α}{i:Nat}{x:α}(c:α->List AV) (h:l[i]? = some x):(l.map c)[i]? = some (c x):=by simp[h]
def mk (n:Nat) (l:List (Nat×AV)):List AV:=l.foldl (fun r p=>r.set p.1 p.2) (List.replicate n .any)
def Zhy (n:Nat) (l:List (Nat×AV)):(mk n l).length=n:=by
 unfold mk
 have:∀(l:List (Nat×AV)) (r:List AV),(l.foldl (fun r p=>r.set p.1 p.2) r).length=r.length:=by
  intro l
  induction l with
  |nil=>intro r;rfl
  |cons p l ih=>intro r;rw[Xec,ih];simp
 rw[this];simp
def Qz8:List AV->List AV->List AV
 |a::l,b::k=>(bif b.isAny then .any else a)::Qz8 l k
 |_,_=>[]
def Q03:∀{l k:List AV},Qz8 l k=k->l.length=k.length->LessL l k
 |[],[],_,_=>trivial
 |a::l,b::k,h,hl=>by
  simp only[Qz8,Xfy] at h
  refine⟨?_,Q03 h.2 (by simpa using hl)⟩
  cases b with
  |any=>exact Less.any
  |_=>simp only[AV.isAny,Xai] at h;rw[h.1];exact Less.rfl
 |[],_::_,_,hl=>by simp at hl
 |_::_,[],_,hl=>by simp at hl
def PPw (R:AV->AV->Prop):List (Nat×AV)->List (Nat×AV)->Prop
 |[],[]=>True
 |p::l,q::k=>p.1=q.1/\R p.2 q.2/\PPw R l k
 |_,_=>False
def Zh5 {R:AV->AV->Prop}:∀{l k:List AV}(t:Nat) {a b:AV},LPw R l k->R a b->LPw R (l.set t a) (k.set t b)
 |[],[],_,_,_,_,_=>trivial
 |_::_,_::_,0,_,_,h,hr=>⟨hr,h.2⟩
 |_::_,_::_,t+1,_,_,h,hr=>⟨h.1,Zh5 t h.2 hr⟩
def Q04 {R:AV->AV->Prop}(h0:R .any .any) (n:Nat) {l k:List (Nat×AV)}(h:PPw R l k):LPw R (mk n l) (mk n k):=by
 have key:∀(l k:List (Nat×AV)) (r q:List AV),PPw R l k->LPw R r q->LPw R (l.foldl (fun r p=>r.set p.1 p.2) r) (k.foldl (fun r p=>r.set p.1 p.2) q):=by
  intro l
  induction l with
  |nil=>intro k r q hp hr;cases k with |nil=>exact hr |cons=>exact hp.elim
  |cons p l ih=>
   intro k r q hp hr
   cases k with
   |nil=>exact hp.elim
   |cons p' k=>
    obtain⟨h1,h2,h3⟩:=hp
    rw[Xec,Xec]
    exact ih k _ _ h3 (by rw[h1];exact Zh5 _ hr h2)
 refine key l k _ _ h ?_
 induction n with
 |zero=>exact trivial
 |succ n ih=>rw[Xfw];exact⟨h0,ih⟩
def ln {R:AV->AV->Prop}:LPw R [] []:=trivial
def lc {R:AV->AV->Prop}{a b:AV}{l k:List AV}(h:R a b) (h':LPw R l k):LPw R (a::l) (b::k):=⟨h,h'⟩
def pn {R:AV->AV->Prop}:PPw R [] []:=trivial
def pc {R:AV->AV->Prop}{t:Nat}{a b:AV}{l k:List (Nat×AV)}(h:R a b) (h':PPw R l k):PPw R ((t,a)::l) ((t,b)::k):=⟨rfl,h,h'⟩
def QPw (R:AV->AV->Prop):List Slot->List Slot->Prop
 |[],[]=>True
 |s::l,t::k=>SPw R s t/\QPw R l k
 |_,_=>False
def qn {R:AV->AV->Prop}:QPw R [] []:=trivial
def qc {R:AV->AV->Prop}{a b:Slot}{l k:List Slot}(h:SPw R a b) (h':QPw R l k):QPw R (a::l) (b::k):=⟨h,h'⟩
def QPw.spec {R:AV->AV->Prop}:∀{l k:List Slot},QPw R l k->l.length=k.length/\∀(i:Nat) s t,l[i]? = some s->k[i]? = some t->SPw R s t
 |[],[],_=>⟨rfl,by simp⟩
 |_::_,_::_,h=>by
  obtain⟨h1,h2⟩:=QPw.spec h.2
  refine⟨by simp[h1],fun i s t hs ht=>?_⟩
  cases i with
  |zero=>simp at hs ht;subst hs ht;exact h.1
  |succ i=>exact h2 i s t (by simpa using hs) (by simpa using ht)
def OkR (P:Program) (p:Oper×Rec):Prop:=match p.2.skip with
 |true=>True
 |false=>Qd0 P p.1 p.2.rd p.2.bl p.2.r p.2.eff
def OkR.step {P:Program}{o:Oper}{c:Rec}(h:OkR P (o,c)) (hs:c.skip=false):Qd0 P o c.rd c.bl c.r c.eff:=by
 unfold OkR at h
 simp only[hs] at h
 exact h
def AllOk (P:Program):List (Oper×Rec)->Prop
 |[]=>True
 |p::l=>OkR P p/\AllOk P l
def AllOk.get {P:Program}:∀{l:List (Oper×Rec)},AllOk P l->∀(i:Nat) (o:Oper) (c:Rec),l[i]? = some (o,c)->c.skip=false->Qd0 P o c.rd c.bl c.r c.eff
 |_::_,h,0,o,c,hi=>by simp at hi;subst hi;exact h.1.step
 |_::_,h,i+1,o,c,hi=>AllOk.get h.2 i o c (by simpa using hi)
 |[],_,_,_,_,hi=>by simp at hi
abbrev sk (t:Nat) (v:AV):Rec:=⟨[(.tmp t,v)],[],.lit undef,[],true⟩
abbrev mv (t:Nat) (v:AV):Rec:=⟨[(.tmp t,v)],[],v,[],false⟩
abbrev rp (rd:List (Operand×AV)) (r:AV):Rec:=⟨rd,[],r,[],false⟩
abbrev ci (n:Int):Operand×AV:=(.const (.int .i64 n),I n)
abbrev cb (b:Bool):Operand×AV:=(.const (.bool b),B b)
abbrev fu (f:Nat):Operand×AV:=(.func f,.fn (.func f) [] [])
def odt {p:Prop} [Decidable p] (h:decide p=true):p:=Xdr h
def osi {α:Type}{a b:α}(h:some a=some b):a=b:=Xfv h
abbrev rb (rd:List (Operand×AV)) (bl:List (Nat×Slot)) (r:AV):Rec:=⟨rd,bl,r,[],false⟩
section
variable {P : Program} {X : Nat -> Nat -> Prop} {φ0 : Nat -> FSlot} {w0 : World} {ro : Option Nat} {Q : Exit -> AS -> Prop} {s : AS} {c : Code}
def Met (ops:Array Oper) (recs:List Rec) (s:AS):Prop:=
 (runL (ops.toList.zip recs) s.regs s.own).1=recs.map (fun c=>(c.rd.map (·.2),c.bl.map (·.2)))/\(ops.toList.length==recs.length&&Zbg ops (ops.toList.zip recs) s.regs.length)=true
def after (ops:Array Oper) (recs:List Rec) (s:AS):AS:=⟨(runL (ops.toList.zip recs) s.regs s.own).2.1,(runL (ops.toList.zip recs) s.regs s.own).2.2⟩
def Qxe {ops:Array Oper}{recs:List Rec}(hall:AllOk P (ops.toList.zip recs)) (hm:Met ops recs s):Facts none P ops (ops.toList.zip recs) s.regs s.own (after ops recs s).regs (after ops recs s).own:=by
 obtain⟨h1,h2⟩:=hm
 rw[Xaq] at h2
 obtain⟨h2,h3⟩:=h2
 have hl:ops.toList.length=recs.length:=by simpa using h2
 refine⟨by rw[Xfl (by omega)],fun i o c hi hs _=>.hard (hall.get i o c hi hs),?_,h3⟩
 have e:(ops.toList.zip recs).map (fun p=>(p.2.rd.map (·.2),p.2.bl.map (·.2)))=recs.map (fun c=>(c.rd.map (·.2),c.bl.map (·.2))):=by
  have:(fun p:Oper×Rec=>(p.2.rd.map (·.2),p.2.bl.map (·.2)))=(fun c:Rec=>(c.rd.map (·.2),c.bl.map (·.2))) ∘ Prod.snd:=rfl
  rw[this,<-Xeo,Xhy (by omega)]
 rw[e,<-h1]
 rfl
def Ztv {id:Nat}{ops:Array Oper}{y:Code}(recs:List Rec) (hall:AllOk P (ops.toList.zip recs)) (h:AWp P X φ0 w0 ro y Q (after ops recs s)) (hm:Met ops recs s:=by exact⟨by kernel_rfl,by kernel_rfl⟩):AWp P X φ0 w0 ro (.seq (.region id ops false) y) Q s:=Qzl (Q1e _ (Qxe hall hm) h)
def Zn0 {id:Nat}{ops:Array Oper}{y:Code}(recs:List Rec) (hall:AllOk P (ops.toList.zip recs)) (h:AWp P X φ0 w0 ro y Q (after ops recs s)) (hf:P.follows .mixedOrders=true:=by kernel_rfl) (hm:Met ops recs s:=by exact⟨by kernel_rfl,by kernel_rfl⟩) (ho:Qjg (ops.toList.zip recs) [] []=true:=by kernel_rfl):AWp P X φ0 w0 ro (.seq (.region id ops true) y) Q s:=Qzl (Qzn hf _ (Qxe hall hm) ho h)
def Zn1 {id:Nat}{ops:Array Oper}(recs:List Rec) (hall:AllOk P (ops.toList.zip recs)) (h:Q .normal (after ops recs s)) (hm:Met ops recs s:=by exact⟨by kernel_rfl,by kernel_rfl⟩):AWp P X φ0 w0 ro (.region id ops false) Q s:=Q1e _ (Qxe hall hm) h
def Zj2 {id:Nat}{ops:Array Oper}(recs:List Rec) (hall:AllOk P (ops.toList.zip recs)) (h:Q .normal (after ops recs s)) (hf:P.follows .mixedOrders=true:=by kernel_rfl) (hm:Met ops recs s:=by exact⟨by kernel_rfl,by kernel_rfl⟩) (ho:Qjg (ops.toList.zip recs) [] []=true:=by kernel_rfl):AWp P X φ0 w0 ro (.region id ops true) Q s:=Qzn hf _ (Qxe hall hm) ho h
def Zb2 {τ:Type}{x y:Code}(G:τ->Prop) (st:τ->AS) (hrest:∀t,G t->AWp P X φ0 w0 ro y Q (st t)) (hx:AWp P X φ0 w0 ro x (Qx5 (fun s'=>∃t,G t/\Mor X φ0 w0 s' (st t)) Q) s):AWp P X φ0 w0 ro (.seq x y) Q s:=fun φ a w hs=>
 wpIn_seq (Xej (hx φ a w hs) fun e a w ⟨φ',s',hs',hq⟩=>by
  cases e with
  |normal=>
   obtain⟨t,hg,hm⟩:=hq
   obtain⟨φ'',h1⟩:=hm φ' a w hs'
   exact hrest t hg φ'' a w h1
  |_=>exact⟨φ',s',hs',hq⟩)
def Qsc {n:Nat}(l:List (Nat×AV)) (hn:s.regs.length=n) (h:Qz8 s.regs (mk n l)=mk n l):Mor X φ0 w0 s ⟨mk n l,s.own⟩:=fun φ _ _ hs=>
 ⟨φ,hs.less (Q03 h (by rw[hn,Zhy]))⟩
def Zwe {n:Nat}(l:List (Nat×AV)) (ρ:List Nat) (sel:List Slot) {l':List (Nat×AV)}{own':List Slot}{k0:Nat}(h0:∀n,k0<=n->φ0 n=.unused) (hr:PPw (RW fun n n'=>ρ[n']? = some n) l l') (ho:QPw (RW fun n n'=>ρ[n']? = some n) sel own')
  (hmask:Qz8 s.regs (mk n l)=mk n l:=by kernel_rfl) (hsel:(s.regs.length==n&&decide ρ.Nodup&&((List.range k0).all fun i=>ρ[i]? == some i))=true:=by kernel_rfl) (hs:ρ.map s.slot=sel:=by kernel_rfl):Mor X φ0 w0 s ⟨mk n l',own'⟩:=by
 simp only[Xaq,Xbm,Xbw] at hsel
 obtain⟨⟨hn,hnd⟩,hid⟩:=hsel
 obtain⟨q1,q2⟩:=ho.spec
 refine Mor.trans (Qsc l hn hmask) (Zrz ρ hnd h0 (fun i hi=>?_) (Q04 (.any _) n hr) ?_ fun n n' s2 e1 e2=>?_)
 ·have:=Xa6.1 hid i (by simpa using hi)
  simpa using this
 ·rw[<-q1,<-hs];simp
 refine q2 n' _ s2 ?_ e2
 rw[<-hs,Xaw,e1]
 rfl
end
end
section
def Qb0 {κ β:Type}(k:κ) (f:κ->Option β):Option β:=f k
def Zid {κ β:Type}{k:κ}{f:κ->Option β}{r:β}(h:Qb0 k f=some r):∃k',k'=k/\f k'=some r:=⟨k,rfl,h⟩
section
variable {P : Program} {X : Nat -> Nat -> Prop} {φ0 : Nat -> FSlot} {w0 : World} {ro : Option Nat} {Q : Exit -> AS -> Prop} {A : AS -> Prop} {s : AS} {i i' : Nat}
def Zra (h:A s):Qx5 A Q .normal s:=h
def Qan (h:Q (.exit i) s):Qx5 A Q (.exit i) s:=h
def Qac (h:Q .ret s):Qx5 A Q .ret s:=h
def Znv (h:Q .normal s):Qwl i Q .normal s:=h
def Qaw (e:i'=i) (h:Q .normal s):Qwl i Q (.exit i') s:=by simp only[Qwl,e,Xe4];exact h
def Znu (e:i'≠i) (h:Q (.exit i') s):Qwl i Q (.exit i') s:=by simp only[Qwl,e,Xff];exact h
def Qal (h:Q .ret s):Qwl i Q .ret s:=h
def Ztx {x y:Code}{o:Operand}{b:Bool}(hb:b=true) (hc:opd s.regs o=.lit (.bool b)) (h:AWp P X φ0 w0 ro x Q s):AWp P X φ0 w0 ro (.cond o x y) Q s:=by subst hb;exact Zb1 hc h
def Zty {x y:Code}{o:Operand}{b:Bool}(hb:b=false) (hc:opd s.regs o=.lit (.bool b)) (h:AWp P X φ0 w0 ro y Q s):AWp P X φ0 w0 ro (.cond o x y) Q s:=by subst hb;exact Q6l hc h
def Qyx (n:Nat) (ty:TypeId) (m:Nat) (t:Nat) (h1:s.regs[t]? = some nilS) (h2:s.slot n=.unused):Mor X φ0 w0 s ⟨s.regs.set t (.acc n ty m []),setL s.own n .tok⟩:=
 Zbc n ty m h2 (LPw.set (fun a=>.same a) _ t h1 .nil) (by rw[Qon,Xaz rfl]) fun k hk=>by
  rw[Qon,Xat (fun e=>hk e.symm)]
  exact SPw.refl (fun a=>.same a) _
end
section
variable {P : Program} {o : Oper} {rd rd' : List (Operand × AV)} {bl eff : List (Nat × Slot)} {r : AV}
def Qzt {g:Operand×AV}(h:Qd0 P o rd bl r eff):Qd0 P o (g::rd) bl r eff:=fun X φ a w hr=>h X φ a w fun p hp=>hr p (Xal _ hp)
def Ztz {e t:Bool}(hb:e=t) (h:Qd0 P o rd bl (B e) eff):Qd0 P o rd bl (B t) eff:=hb▸h
def Qhz {k:IntKind}{e x:Int}(he:some e=some x) (h:Qd0 P o rd bl (K k e) eff):Qd0 P o rd bl (K k x) eff:=Xfv he▸h
def Qzj {a b:Int}(h:(a != b)=true):a≠b:=by simpa using h
def Qb6 {a b:Bool}(h:(a&&b)=true):a=true/\b=true:=by simpa using h
def Zd8 {p q r:Prop} [Decidable p] [Decidable q] [Decidable r] (h:(decide p&&decide q&&decide r)=true):p:=by simp at h;exact h.1.1
def Zd7 {p q r:Prop} [Decidable p] [Decidable q] [Decidable r] (h:(decide p&&decide q&&decide r)=true):q:=by simp at h;exact h.1.2
def Zb8 {p q r:Prop} [Decidable p] [Decidable q] [Decidable r] (h:(decide p&&decide q&&decide r)=true):r:=by simp at h;exact h.2
def Zwz {p q:Prop} [Decidable p] [Decidable q] {α:Type}{l:List α}{hh:Int}(c:α->List AV) (h:(decide p&&decide q&&decide (hh<=(l.length:Int)))=true):hh<=((l.map c).length:Int):=by simp at h;simpa using h.2
def Zym {α:Type}(c:α->List AV) {e:List α}{l:Int}:((e.map c).drop l.toNat).take (((e.length:Nat):Int).toNat-l.toNat)=(e.drop l.toNat).map c:=by
 rw[<-List.map_drop,Xcb (by simp)]
def Zyl {α:Type}(c:α->List AV) {e:List α}{hh:Int}:((e.map c).drop (0:Int).toNat).take (hh.toNat-(0:Int).toNat)=(e.take (hh.toNat-0)).map c:=by
 simp
def Qkk {α:Type}(c:α->List AV) {a b:List α}{n:Nat}(h:decide ((a.length+b.length)*n<=140737488355328)=true):((a.map c).length+(b.map c).length)*n<=140737488355328:=by simpa using h
def Qkj {α:Type}(c:α->List AV) {a b:List α}{n:Nat}(h:decide ((a.length+b.length)*n<=140737488355328)=true) (hn:0<n):(a.map c).length+(b.map c).length<=maxLen:=by
 have h1:=Xdr h
 have h2:=Xe6 (a.length+b.length) hn
 simp only[Xb3,maxLen]
 omega
def Zn5 {α:Type}(c:α->List AV) {b:List α}{n:Nat}(h:decide ((0+b.length)*n<=140737488355328)=true):(([]:List (List AV)).length+(b.map c).length)*n<=140737488355328:=by simpa using h
def Zn4 {α:Type}(c:α->List AV) {b:List α}{n:Nat}(h:decide ((0+b.length)*n<=140737488355328)=true) (hn:0<n):([]:List (List AV)).length+(b.map c).length<=maxLen:=by
 have h1:=Xdr h
 have h2:=Xe6 (0+b.length) hn
 simp only[Xb3,Xcg,maxLen]
 omega
def Qki {α:Type}(c:α->List AV) {a b:List α}:a.map c++b.map c=(a++b).map c:=by simp
def Qsa {α:Type}(c:α->List AV) (h:∀x,(c x).all AV.one=true) (l:List α):((l.map c).all fun y=>y.all AV.one)=true:=by
 induction l with
 |nil=>rfl
 |cons x l ih=>simp only[Xax,Xdo,h x,ih,Xew]
def Qn9 {k:Nat}:∀a∈([]:List AV),NLt k a:=by simp
def Qlf {k:Nat}{a:AV}{l:List AV}(h:NLt k a) (hl:∀a∈l,NLt k a):∀b∈a::l,NLt k b:=fun b hb=>by
 rcases Xa7.1 hb with rfl |hb
 ·exact h
 exact hl b hb
def Qcf {k:Nat}{α:Type}{c:α->List AV}(h:∀x,∀a∈c x,NLt k a) (l:List α):∀x∈l.map c,∀a∈x,NLt k a:=fun x hx=>by
 obtain⟨y,_,rfl⟩:=Xba.1 hx
 exact h y
def Qpp {k m:Nat}{α:Type}{c:α->List AV}(h:∀x,∀a∈c x,NLt k a) (l:List α):NLt k (.dat m (l.map c)):=.dat _ _ (Qcf h l)
def Qgh {k:Nat}{l l':List AV}(h:∀a∈l,NLt k a) (h':∀a∈l',NLt k a):∀a∈l++l',NLt k a:=fun a ha=>by
 rcases Xby.1 ha with ha |ha
 ·exact h a ha
 exact h' a ha
def Q75 {α:Type}(c:α->List AV) {z:α}{zs:List Value}{n:Nat}(hz:c z=zs.map AV.lit):List.replicate n (zs.map AV.lit)=(List.replicate n z).map c:=by simp[hz]
def Qhv {α:Type}(c:α->List AV) {e:List α}{x x':α}{i j:Nat}{ys:List AV}(h:Qj7 (c x) i ys=c x'):(e.map c).set j (Qj7 (c x) i ys)=(e.set j x').map c:=by rw[h,List.map_set]
def Zgy {R:AV->AV->Prop}{m:Nat}{x x':List AV}(h:LPw R x x'):SPw R (.own m [x]) (.own m [x']):=.own m _ _ rfl fun j y y' hj hj'=>by
 cases j with
 |zero=>simp at hj hj';subst hj hj';exact h
 |succ j=>simp at hj
def Zre {M:Nat->Nat->Prop}{m:Nat}{α:Type}{c:α->List AV}{l:List α}(h:∀x,∀a∈c x,NLt 0 a):SPw (RW M) (.own m (l.map c)) (.own m (l.map c)):=.own m _ _ rfl fun j y y' hj hj'=>by
 rw[hj] at hj'
 cases hj'
 have hy:=Qcf h l y (Xac hj)
 clear hj
 induction y with
 |nil=>exact trivial
 |cons a y ih=>exact⟨.rn (.plain a (hy a (by simp))),ih fun b hb=>hy b (Xal _ hb)⟩
def Qct {M:Nat->Nat->Prop}{l l':List AV}(h:LPw (Rn M) l l'):Rn M (.agg l) (.agg l'):=.agg l l' h.length fun i a a' hi hi'=>by
 obtain⟨b,hb,hr⟩:=h.get i a' hi'
 rw[hi] at hb;cases hb;exact hr
def Q0s {M:Nat->Nat->Prop}{l l':List AV}(h:LPw (Rn M) l l'):Rn M (.tup l) (.tup l'):=.tup l l' h.length fun i a a' hi hi'=>by
 obtain⟨b,hb,hr⟩:=h.get i a' hi'
 rw[hi] at hb;cases hb;exact hr
def Qby {M:Nat->Nat->Prop}{f:Fn}{l l' c c':List AV}(h:LPw (Rn M) l l') (h':LPw (Rn M) c c'):Rn M (.fn f l c) (.fn f l' c'):=.fn f l l' c c' h.length h'.length (fun i a a' hi hi'=>by
 obtain⟨b,hb,hr⟩:=h.get i a' hi'
 rw[hi] at hb;cases hb;exact hr) (fun i a a' hi hi'=>by
 obtain⟨b,hb,hr⟩:=h'.get i a' hi'
 rw[hi] at hb;cases hb;exact hr)
def Zg4 {ρ:List Nat}{n n' m j i:Nat}(h:(ρ[n']? == some n)=true):Rn (fun n n'=>ρ[n']? = some n) (.ref n m j i) (.ref n' m j i):=.ref (by simpa using h) _ _ _
def Qas {ρ:List Nat}{n n' m j i:Nat}(h:(ρ[n']? == some n)=true):Rn (fun n n'=>ρ[n']? = some n) (.own n m j i) (.own n' m j i):=.own (by simpa using h) _ _ _
def Qcv {ρ:List Nat}{n n':Nat}{ty:TypeId}{m:Nat}{xs:List (List AV)}(h:(ρ[n']? == some n)=true) (hx:∀x∈xs,∀a∈x,NLt 0 a):Rn (fun n n'=>ρ[n']? = some n) (.acc n ty m xs) (.acc n' ty m xs):=.acc (by simpa using h) _ _ _ hx
def rwl {M:Nat->Nat->Prop}{v:Value}:RW M (.lit v) (.lit v):=.rn (.plain _ (.lit v))
def nll {k:Nat}{v:Value}:NLt k (.lit v):=.lit v
def nle {a b:Nat}(h:Nat.ble a b=true):a<=b:=Xd4 h
def Q2t {M:Nat->Nat->Prop}:LPw (Rn M) [] []:=trivial
def Qw9 {M:Nat->Nat->Prop}{a a':AV}{l l':List AV}(h:Rn M a a') (hl:LPw (Rn M) l l'):LPw (Rn M) (a::l) (a'::l'):=⟨h,hl⟩
def Zdz {α:Type}{c:α->List AV}{l:List α}(h:Qd0 P o rd bl (.lit (.int .i64 (((l.map c).length:Nat):Int))) eff):Qd0 P o rd bl (I (l.length:Int)) eff:=by simpa using h
def LW:List (Operand×AV)->List (Operand×AV)->Prop
 |[],[]=>True
 |p::l,q::k=>p.1=q.1/\Less p.2 q.2/\LW l k
 |_,_=>False
def LW.get:∀{l k:List (Operand×AV)},LW l k->∀q∈k,∃p∈l,p.1=q.1/\Less p.2 q.2
 |[],[],_,q,hq=>by cases hq
 |p::l,q'::k,h,q,hq=>by
  rcases Xa7.1 hq with rfl |hq
  ·exact⟨p,by simp,h.1,h.2.1⟩
  obtain⟨p',hp',e⟩:=LW.get h.2.2 q hq
  exact⟨p',Xal _ hp',e⟩
def Zdw (hw:LW rd rd') (h:Qd0 P o rd' bl r eff):Qd0 P o rd bl r eff:=fun X φ a w hr=>h X φ a w fun q hq=>by
 obtain⟨p,hp,e1,e2⟩:=hw.get q hq
 rw[<-e1]
 exact e2 _ _ _ _ (hr p hp)
def Less.acc {n:Nat}{ty:TypeId}{m:Nat}{xs:List (List AV)}:Less (.acc n ty m xs) (.dat m xs):=fun _ _ _ _ h=>by
 cases h with
 |acc _ _ _ _ A len cap g ok hr _ _=>exact .dat m xs A len cap g ok hr
def Less.nil {m:Nat}:Less nilS (.dat m []):=fun _ _ _ v h=>by
 have:=Qd1 h
 subst this
 exact .dat m [] none 0 0 (fun _ _=>undef) (DatOK.nil m none 0 _ (Xbg _)) (by simp)
def Less.agg {l l':List AV}(h:LPw Less l l'):Less (.agg l) (.agg l'):=fun _ _ _ _ hv=>by
 cases hv with
 |agg _ vs hs hr=>
  refine .agg _ vs (hs.trans h.length) fun i a' hi=>?_
  obtain⟨b,hb,hlb⟩:=h.get i a' hi
  exact hlb _ _ _ _ (hr i b hb)
def Q87 {f:Operand}{xs:Array Operand}{ts:Array TypeId}{g:FuncId}{first cap vs args:List AV}{res:AV}(h:o.op=.call { callee:=.value f,args:=xs,argTypes:=ts }) (hcall:∀vals w,(callFunc g vals).run P w=.ok (.enter g vals) w) (spec:Spec P g args [] res [])
  (hvl:vs.length=xs.size) (ha:first++vs++cap=args) (hn:∀a∈args,NLt 0 a) (hres:NLt 0 res) (hrd:(f,.fn (.func g) first cap)::xs.toList.zip vs=rd):Qd0 P o rd [] res []:=by
 subst ha
 exact Q1j (σ:=[]) (σr:=[]) (σ':=[]) (σr':=[]) [] Xfg h hcall spec hvl (.plain _ (.agg _ hn)) rfl (by simp) rfl rfl (Xay _) (by simp) (.plain _ hres) rfl rfl hrd
def Qdv {t:TypeId}{n:Nat}(h:(P.info? t).map (·.size)=some n):∃i,P.info? t=some i/\i.size=n:=by
 cases hi:P.info? t with
 |none=>rw[hi] at h;cases h
 |some i=>rw[hi] at h;exact⟨i,rfl,by simpa using h⟩
def Qx6 {t:TypeId}{m bytes:Nat}(h:(P.info? t).map (fun i=>(i.size,i.bytes,i.zero.map (·.cells.size)))=some (m,bytes,some m)) (hp:0<m):TE P t m bytes:=by
 refine⟨?_,hp⟩
 cases hi:P.info? t with
 |none=>rw[hi] at h;cases h
 |some i=>
  rw[hi] at h
  simp only[Xca,Xdv,Xef] at h
  obtain⟨h1,h2,h3⟩:=h
  cases hz:i.zero with
  |none=>rw[hz] at h3;cases h3
  |some z=>rw[hz] at h3;exact⟨i,z,rfl,hz,h1,h2,by simpa using h3⟩
def Qk7 {t:TypeId}{zs:List Value}(h:((P.info? t).bind (·.zero)).map (·.cells.toList)=some zs):TZ P t zs:=by
 cases hi:P.info? t with
 |none=>rw[hi] at h;cases h
 |some i=>
  cases hz:i.zero with
  |none=>rw[hi] at h;simp[hz] at h
  |some z=>rw[hi] at h;simp only[Xaa,hz,Xca,Xdv] at h;exact⟨i,z,hi,hz,h⟩
end
end
section
def NLt.of0 {k:Nat}{a:AV}(h:NLt 0 a):NLt k a:=by
 induction h with
 |any=>exact .any
 |lit v=>exact .lit v
 |agg l _ ih=>exact .agg l ih
 |tup l _ ih=>exact .tup l ih
 |fn f l c _ _ ih ih'=>exact .fn f l c ih ih'
 |dat m xs _ ih=>exact .dat m xs ih
 |dptr cs i _ ih=>exact .dptr cs i ih
 |ref n m j i h=>exact absurd h (Xcl n)
 |own n m j len h=>exact absurd h (Xcl n)
 |acc n ty m xs h=>exact absurd h (Xcl n)
 |gro n ty m len h=>exact absurd h (Xcl n)
 |row n q m j len h=>exact absurd h (Xcl n)
 |rowp n q m j i h=>exact absurd h (Xcl n)
 |mp n h=>exact absurd h (Xcl n)
def Q20 {k:Nat}{α:Type}{c:α->List AV}(h:∀x,∀a∈c x,NLt 0 a) (l:List α):∀x∈l.map c,∀a∈x,NLt k a:=fun x hx a ha=>(Qcf h l x hx a ha).of0
def Qiv {k m:Nat}{α:Type}{c:α->List AV}(h:∀x,∀a∈c x,NLt 0 a) (l:List α):SNLt k (.own m (l.map c)):=.own m _ (Q20 h l)
def Qkg {k m:Nat}{l:List AV}(h:∀a∈l,NLt k a):SNLt k (.own m [l]):=.own m _ fun x hx=>by
 rw[Xbq.1 hx]
 exact h
def Qkf {k:Nat}:∀s∈([]:List Slot),SNLt k s:=by simp
def Qdt {k:Nat}{s:Slot}{l:List Slot}(h:SNLt k s) (hl:∀s∈l,SNLt k s):∀b∈s::l,SNLt k b:=fun b hb=>by
 rcases Xa7.1 hb with rfl |hb
 ·exact h
 exact hl b hb
def Zip {P:Program}{fn:Func}{k:Nat}{res:AV}{σ':List Slot}{regs vs:List AV}(hr:ResL P ⟨regs,σ'⟩ fn.results.toList vs) (hres:res=Qz6 vs) (hn:NLt k res) (hk:σ'.length=k) (hs:∀s∈σ',SNLt k s):Fin P fn k res σ' ⟨regs,σ'⟩:=
 ⟨⟨vs,hr,hres⟩,hn,Nat.le_of_eq hk,fun n hn=>⟨rfl,by
  subst hk
  show SNLt _ (σ'.getD n .unused)
  simp only[Xaj,Xab hn,Xbd]
  exact hs _ (Xb2 hn)⟩⟩
def finM (P:Program) (X:Nat->Nat->Prop) (φ0:Nat->FSlot) (w0:World) (fn:Func) (k:Nat) (res:AV) (σ':List Slot):Exit->AS->Prop
 |.normal,s |.ret,s=>∃s',Mor X φ0 w0 s s'/\Fin P fn k res σ' s'
 |_,_=>False
def Q3v {P:Program}{X:Nat->Nat->Prop}{φ0:Nat->FSlot}{w0:World}{ro:Option Nat}{fn:Func}{k:Nat}{res:AV}{σ':List Slot}{c:Code}{s:AS}(h:AWp P X φ0 w0 ro c (finM P X φ0 w0 fn k res σ') s):AWp P X φ0 w0 ro c (finA P fn k res σ') s:=fun φ a w hs=>
 Xej (h φ a w hs) fun e a w ⟨φ',s',hs',hq⟩=>by
  cases e with
  |normal=>obtain⟨s2,hm,hf⟩:=hq;obtain⟨φ2,h2⟩:=hm _ _ _ hs';exact⟨φ2,s2,h2,hf⟩
  |ret=>obtain⟨s2,hm,hf⟩:=hq;obtain⟨φ2,h2⟩:=hm _ _ _ hs';exact⟨φ2,s2,h2,hf⟩
  |_=>exact hq.elim
def Qa2 {ρ:List Nat}{k n n' m j i:Nat}(h:(ρ[n]? == some n'&&Nat.blt n k)=true):Rn (fun n n'=>ρ[n]? = some n'/\n<k) (.ref n m j i) (.ref n' m j i):=.ref (by simpa [Xfs] using h) _ _ _
def Qdf {ρ:List Nat}{k n n' m j i:Nat}(h:(ρ[n]? == some n'&&Nat.blt n k)=true):Rn (fun n n'=>ρ[n]? = some n'/\n<k) (.own n m j i) (.own n' m j i):=.own (by simpa [Xfs] using h) _ _ _
def Zg5 {ρ:List Nat}{n n':Nat}{ty:TypeId}{m:Nat}{xs:List (List AV)}(h:(ρ[n]? == some n')=true) (hx:∀x∈xs,∀a∈x,NLt 0 a):Rn (fun n n'=>ρ[n]? = some n') (.acc n ty m xs) (.acc n' ty m xs):=.acc (by simpa using h) _ _ _ hx
def Qb7 {ρ:List Nat}{n n' m j i:Nat}(h:(ρ[n]? == some n')=true):Rn (fun n n'=>ρ[n]? = some n') (.ref n m j i) (.ref n' m j i):=.ref (by simpa using h) _ _ _
def Qff {ρ:List Nat}{n n' m j i:Nat}(h:(ρ[n]? == some n')=true):Rn (fun n n'=>ρ[n]? = some n') (.own n m j i) (.own n' m j i):=.own (by simpa using h) _ _ _
def SLw (M:Nat->Nat->Prop):List Slot->List Slot->Prop
 |[],[]=>True
 |s::l,t::k=>SRn M s t/\SLw M l k
 |_,_=>False
def SLw.spec {M:Nat->Nat->Prop}:∀{l k:List Slot},SLw M l k->l.length=k.length/\∀(i:Nat) s t,l[i]? = some s->k[i]? = some t->SRn M s t
 |[],[],_=>⟨rfl,by simp⟩
 |_::_,_::_,h=>by
  obtain⟨h1,h2⟩:=SLw.spec h.2
  refine⟨by simp[h1],fun i s t hs ht=>?_⟩
  cases i with
  |zero=>simp at hs ht;subst hs ht;exact h.1
  |succ i=>exact h2 i s t (by simpa using hs) (by simpa using ht)
def Qai {M:Nat->Nat->Prop}:SLw M [] []:=trivial
def Q2p {M:Nat->Nat->Prop}{s t:Slot}{l k:List Slot}(h:SRn M s t) (hl:SLw M l k):SLw M (s::l) (t::k):=⟨h,hl⟩
def Qcr {M:Nat->Nat->Prop}{m:Nat}{l l':List AV}(h:LPw (Rn M) l l'):SRn M (.own m [l]) (.own m [l']):=.own m _ _ rfl
 (fun j x x' hj hj'=>by
  cases j with
  |zero=>simp at hj hj';subst hj hj';exact h.length
  |succ j=>simp at hj)
 (fun j x x' hj hj' i a a' hi hi'=>by
  cases j with
  |zero=>
   simp at hj hj';subst hj hj'
   obtain⟨b,hb,hr⟩:=h.get i a' hi'
   rw[hi] at hb;cases hb;exact hr
  |succ j=>simp at hj)
def Qa5 {M:Nat->Nat->Prop}{m:Nat}{α:Type}{c:α->List AV}{l:List α}(h:∀x,∀a∈c x,NLt 0 a):SRn M (.own m (l.map c)) (.own m (l.map c)):=.own m _ _ rfl
 (fun j x x' hj hj'=>by rw[hj] at hj';cases hj';rfl)
 (fun j x x' hj hj' i a a' hi hi'=>by
  rw[hj] at hj';cases hj'
  rw[hi] at hi';cases hi'
  exact .plain a (Qcf h l x (Xac hj) a (Xac hi)))
def Slot.alive:Slot->Bool
 |.dead=>false
 |.tok=>false
 |_=>true
section
variable {P : Program} {o : Oper}
def Qd5 {f:Operand}{xs:Array Operand}{ts:Array TypeId}{g:FuncId}{first cap vs args:List AV}{σ σr σ' σr':List Slot}{res res':AV}(ρ:List Nat) (h:o.op=.call { callee:=.value f,args:=xs,argTypes:=ts })
  (hcall:∀vals w,(callFunc g vals).run P w=.ok (.enter g vals) w) (spec:Spec P g args σ res σ')
  (hdec:(decide ρ.Nodup&&(vs.length==xs.size)&&(σ'.length==ρ.length)&&Nat.ble σ.length ρ.length&&σ.all Slot.alive)=true)
  (hargs:Rn (fun n n'=>ρ[n]? = some n'/\n<σ.length) (.agg args) (.agg (first++vs++cap)))
  (hσ:SLw (fun n n'=>ρ[n]? = some n'/\n<σ.length) σ σr) (hσ':SLw (fun n n'=>ρ[n]? = some n') σ' σr') (hres:Rn (fun n n'=>ρ[n]? = some n') res res')
  {bl eff:List (Nat×Slot)}(hbl:(ρ.take σ.length).zip σr++(ρ.drop σ.length).map (fun n=>(n,Slot.unused))=bl) (heff:ρ.zip σr'=eff) {rd:List (Operand×AV)}(hrd:(f,.fn (.func g) first cap)::xs.toList.zip vs=rd) :
  Qd0 P o rd bl res' eff:=by
 simp only[Xaq,Xbw,Xbm,Nat.ble_eq] at hdec
 obtain⟨⟨⟨⟨h1,h2⟩,h3⟩,h4⟩,h5⟩:=hdec
 obtain⟨q1,q2⟩:=hσ.spec
 obtain⟨r1,r2⟩:=hσ'.spec
 refine Q1j ρ h1 h hcall spec h2 hargs q1.symm (fun n s s' hs hs'=>⟨⟨fun e=>?_,fun e=>?_⟩,q2 n s s' hs hs'⟩) h3 (by omega) h4 r2 hres hbl heff hrd
 all_goals
  subst e
  have:=Xa6.1 h5 _ (Xac hs)
  cases this
end
section
variable {P : Program} {o : Oper}
def Qk6 {x y:Operand}{t e:TypeId}{g:Bool}{n len:Nat}{l:List AV}{k:IntKind}{q:Int}{r:AV}(h:o.op=.index t x y) (ht:P.underlying t=some (.array len e)) (hi:TI P e g n)
  (h0:0<=q) (hq:q.toNat<len) (hl:q.toNat*n+n<=l.length) (hn:g=false->n=1) (hv:(bif g then .agg ((l.drop (q.toNat*n)).take n) else l.getD (q.toNat*n) .any)=r):Qd0 P o [(x,.agg l),(y,.lit (.int k q))] [] r []:=Qc6 fun X φ ac w hr _=>by
 have h1:=hr (x,.agg l) (by simp)
 have hy:ac.eval y=.int k q:=Qd1 (hr (y,.lit (.int k q)) (by simp))
 have hlt':q<(len:Int):=by omega
 dsimp only at h1
 cases hx:ac.eval x with
 |agg vs=>
  rw[hx] at h1
  cases h1 with
  |agg _ _ hs h2=>
   generalize hoff:q.toNat*n=off at *
   cases g with
   |false=>
    have hn1:=hn rfl
    have hlt:off<vs.size:=by omega
    refine⟨vs[off],?_,?_⟩
    ·have hg:vs[off]? = some vs[off]:=Xa1 hlt
     simp[execOp,h,hx,hy,Instr.index,Xa8 ht,asIntOf,h0,hlt',hi.size,hoff,part,hi.isAgg,hg]
    subst hv
    have:=h2 off (l.getD off .any) (by rw[Xaj,Xab (by omega)];rfl)
    simpa [Xaf,hlt] using this
   |true=>
    refine⟨.agg (vs.extract off (off+n)),?_,?_⟩
    ·simp[execOp,h,hx,hy,Instr.index,Xa8 ht,asIntOf,h0,hlt',hi.size,hoff,part,hi.isAgg]
    subst hv
    refine .agg _ _ (by simp;omega) fun i a hia=>?_
    rw[Xbi] at hia
    split at hia
    ·rw[Xch] at hia
     have:=h2 _ a hia
     rw[Xaf] at this ⊢
     rwa [Array.getElem?_extract,Xaz (by omega)]
    cases hia
 |_=>rw[hx] at h1;cases h1
end
section
variable {X : Nat -> Nat -> Prop} {φ0 : Nat -> FSlot} {w0 : World} {s : AS}
def Zpw {n:Nat}(q:Nat) (l:List (Nat×AV)) {l':List (Nat×AV)}{m:Nat}{xs:List (List AV)}{own':List Slot}(hmask:Qz8 s.regs (mk n l)=mk n l) (hn:(s.regs.length==n&&Nat.blt q s.own.length)=true) (hs:s.own.getD q .unused=.own m xs)
  (hr:PPw (Fz q m xs) l l') (ho:s.own.set q .dead=own'):Mor X φ0 w0 s ⟨mk n l',own'⟩:=by
 subst ho
 simp only[Xaq,Xbm,Xfs] at hn
 refine Mor.trans (Qsc l hn.1 hmask) (Qvj (s:=⟨mk n l,s.own⟩) q hs (Q04 (.any _) n hr) ?_ fun k hk=>?_)
 ·simp[hn.2]
 have:(s.own.set q Slot.dead).getD k .unused=s.own.getD k .unused:=by
  simp only[Xaj]
  rw[Xci (fun e=>hk e.symm)]
 rw[this]
 exact SPw.refl (fun a=>.same a) _
def Qvq {n m:Nat}{α:Type}{c:α->List AV}{e:List α}{len:Nat}(h:decide (len<=e.length)=true):Fz n m (e.map c) (.own n m 0 len) (.dat m ((e.take len).map c)):=.fz 0 len _ (by simpa using h) (by simp[List.map_take])
end
end
section
section
variable {X : Nat -> Nat -> Prop} {φ φ' : Nat -> FSlot} {w w' : World}
def Q6k (h:∀n,φ n=.unused) (ev:Evo X φ w φ' w'):Below w.heap.size w w':=⟨ev.os,ev.tape,ev.output,ev.size,fun b hb=>ev.blk b hb fun ⟨n,hn⟩=>by
 rw[h n] at hn
 exact Qf1 hn⟩
def Zsa (h:∀n,φ n=.unused) (hX:∀b off,X b off->b<w.heap.size):Qo4 X φ w (fun n=>([]:List Slot).getD n .unused):=⟨fun n=>h n,fun n n' b h1=>(by
 rw[h n] at h1
 exact(Qf1 h1).elim),hX⟩
def Spec.calls {P:Program}{f:FuncId}{args:List AV}{res:AV}(h:Spec P f args [] res []) {vals:Array Value}(hsz:vals.size=args.length) (hargs:∀i v,args[i]? = some v->RelV X φ w v (vals.getD i undef)) (hφ:∀n,φ n=.unused) (hX:∀b off,X b off->b<w.heap.size) :
  Calls P f vals w fun e w'=>∃v φ',e=.returned v/\RelV X φ' w' res v/\Below w.heap.size w w':=by
 refine(h X φ w vals hsz hargs (Zsa hφ hX)).mono ?_
 rintro e w' ⟨v,φ',rfl,hv,_,ev⟩
 exact⟨v,φ',rfl,hv,Q6k hφ ev⟩
end
end
section
structure Kept (Y Y':Nat->Nat->Prop) (W W':World):Prop where
 os:W'.os=W.os
 tape:W'.tape=W.tape
 output:W'.output=W.output
 size:W.heap.size<=W'.heap.size
 blk:∀b,b<W.heap.size->(∀off,¬Y b off)->W'.heap[b]? = W.heap[b]?
 cell:∀b off,b<W.heap.size->¬Y b off->¬Y' b off/\W'.cell? ⟨b,off,none⟩=W.cell? ⟨b,off,none⟩
 new:∀b off,Y' b off->(∃off,Y b off)\/W.heap.size<=b
def grow (D Y:Nat->Nat->Prop) (W W':World):Nat->Nat->Prop:=fun b off=>D b off\/(∃off',Y b off')\/(W.heap.size<=b/\b<W'.heap.size)
abbrev Far (α:Type):=Option (List α)->(Nat->Nat->Prop)->(Nat->Nat->Prop)->World->Prop
def wide (X:Nat->Nat->Prop) (φ:Nat->FSlot) (W:World) (D:Nat->Nat->Prop):Nat->Nat->Prop:=fun b off=>D b off\/DataAt X φ W b off
def Qz1 (P:Program) {α:Type}(l:Nat) (J:Far α) (encs:α->List AV):Prop:=
 ∀(x:α) (rest:List α) (X:Nat->Nat->Prop) (φ:Nat->FSlot) (n:Nat) (Y D:Nat->Nat->Prop) (B W:World) (vals:Array Value),J (some (x::rest)) Y D B->φ n=.far Y->Q32 X φ W Y D B->(∀b off,X b off->b<W.heap.size)->vals.size=(encs x).length->(∀i v,(encs x)[i]? = some v->RelV X φ W v (vals.getD i undef)) ->
  YieldAt (FR none) 0 P l vals W fun e W'=>∃Y',Kept Y Y' W W'/\(∀b off,Y' b off->b<W'.heap.size)/\((e=.returned (.bool true)/\J (some rest) Y' (grow (wide X φ W D) Y W W') W')\/(e=.returned (.bool false)/\J none Y' (grow (wide X φ W D) Y W W') W'))
def Qsv (P:Program) (o:Oper) (rd:List (Operand×AV)) (bl:List (Nat×Slot)) (r:AV) (eff:List (Nat×Slot)) (r':AV) (eff':List (Nat×Slot)):Prop:=
 ∀(X:Nat->Nat->Prop) (φ:Nat->FSlot) (a:Act) (w:World),(∀p∈rd,RelV X φ w p.2 (a.eval p.1))->(∀p∈bl,SlotOK X φ w p.1 p.2)->Qdu φ->(∀b off,X b off->b<w.heap.size) ->
  (∀n b,(φ n).lies b->b<w.heap.size) ->
  ∀(next:Act->World->Prop) (Q:Exit->Act->World->Prop),
   (∀v φ' w',RelV X φ' w' r v->(∀p∈eff,SlotOK X φ' w' p.1 p.2)->Qdu φ'->(∀n,n∉eff.map (·.1)->φ' n=φ n) ->
    (∀b,b<w.heap.size->(∀p∈eff,¬(φ p.1).lies b)->w'.heap[b]? = w.heap[b]?)->Evo X φ w φ' w'->next (a.put o.dst v) w') ->
   (∀v φ' w',RelV X φ' w' r' v->(∀p∈eff',SlotOK X φ' w' p.1 p.2)->Qdu φ'->(∀n,n∉eff'.map (·.1)->φ' n=φ n) ->
    (∀b,b<w.heap.size->(∀p∈eff',¬(φ p.1).lies b)->w'.heap[b]? = w.heap[b]?)->Evo X φ w φ' w'->next (a.put o.dst v) w')->Does P o a w next Q
def Q85 {P:Program}{α:Type}{o:Oper}{f:Operand}{xs:Array Operand}{ts:Array TypeId}{l n:Nat}{J:Far α}{encs:α->List AV}{x:α}{rest:List α}
  (h:o.op=.call { callee:=.value f,args:=xs,argTypes:=ts }) (hl:(encs x).length=xs.size) (hy:Qz1 P l J encs) :
  Qsv P o ((f,.lit (.func (.yield l) #[] #[]))::xs.toList.zip (encs x)) [(n,.far (J (some (x::rest))))] (.lit (.bool true)) [(n,.far (J (some rest)))] (.lit (.bool false)) [(n,.far (J none))]:=by
 intro X φ a w hr hb hd hX hlt next Q k1 k2
 obtain⟨Y,D,B,hn,hJ,hF⟩:=hb (n,.far (J (some (x::rest)))) (by simp)
 dsimp only at hn
 have hf:a.eval f=.func (.yield l) #[] #[]:=Qd1 (hr (f,_) (by simp))
 have hargs:∀i v,(encs x)[i]? = some v->RelV X φ w v ((xs.map a.eval).getD i undef):=fun i v hi=>by
  have h2:i<(encs x).length:=(Xad.1 hi).1
  have h1:i<xs.size:=by omega
  have:=hr (xs[i],v) (Xal _ (Xac (i:=i) (by rw[Xbs];exact⟨by simp[h1],hi⟩)))
  simpa [h1] using this
 obtain⟨fn,tmps,assign,body,hrun,hround⟩:=hy x rest X φ n Y D B w (xs.map a.eval) hJ hn hF hX (by simp[hl]) hargs
 have hexec:(execOp a.eval o).run P w=.ok (.round l fn tmps assign body) w:=by
  have:(Instr.yield l (xs.map a.eval)).run P w=.ok (.round l fn tmps assign body) w:=hrun
  simp only[execOp,h,resolve,hf,Deferred.ofValue,invoke,Xav,Xcr,Xao]
  simpa using this
 intro ro
 refine⟨fun _ _=>trivial,?_⟩
 rw[Xf2 _ _ _ (Qop hexec fun d e=>by cases e),hexec]
 refine⟨fun e=>(by cases e),RoundIn.mono (R:=_) hround ?_⟩
 rintro e w' ⟨Y',hk,hlt',hcase⟩
 let φ':Nat->FSlot:=fun q=>if q=n then .far Y' else φ q
 have hin:∀q,q≠n->φ' q=φ q:=fun q hq=>Xat hq
 have hnn:φ' n=.far Y':=Xaz rfl
 have notY:∀q b,q≠n->(φ q).lies b->∀off,¬Y b off:=fun q b hq hlb off hy=>hq (hd q n b hlb (.far hn hy))
 have hHold:∀b,b<w.heap.size->¬Qnz φ b->∀off,¬Y b off:=fun b _ hh off hy=>hh ⟨n,.far hn hy⟩
 have evo:Evo X φ w φ' w':=by
  refine⟨hk.os,hk.tape,hk.output,hk.size,fun b hb hh=>hk.blk b hb (hHold b hb hh),fun b ⟨q,hq⟩=>?_,fun b off hdat=>?_,fun q hq=>?_,fun q b hq=>?_,fun q t hq=>?_,fun q Y0 hq=>?_,fun q bs hq=>?_,fun q b hq hq'=>?_⟩
  ·by_cases e:q=n
   ·subst e
    rw[hnn] at hq
    obtain⟨off,hy'⟩:=Qqy hq
    rcases hk.new b off hy' with ⟨off',h1⟩ |h1
    ·exact .inl ⟨q,.far hn h1⟩
    exact .inr h1
   rw[hin q e] at hq;exact .inl ⟨q,hq⟩
  ·obtain⟨h1,h2⟩:=hk.cell b off hdat.lt (hdat.far n Y hn)
   refine⟨⟨Xbc hdat.lt hk.size,hdat.hid,fun q hq=>?_,fun q L hq=>?_,fun q Y0 hq=>?_,fun q bs z hq=>?_⟩,h2⟩
   ·by_cases e:q=n
    ·subst e;rw[hnn] at hq;cases hq
    rw[hin q e] at hq;exact hdat.own q hq
   ·by_cases e:q=n
    ·subst e;rw[hnn] at hq;cases hq
    rw[hin q e] at hq;exact hdat.tok q L hq
   ·by_cases e:q=n
    ·subst e;rw[hnn] at hq;cases hq;exact h1
    rw[hin q e] at hq;exact hdat.far q Y0 hq
   by_cases e:q=n
   ·subst e;rw[hnn] at hq;cases hq
   rw[hin q e] at hq;exact hdat.mat q bs z hq
  ·have e:q≠n:=fun e=>by subst e;rw[hn] at hq;cases hq
   rw[hin q e];exact hq
  ·have e:q≠n:=fun e=>by subst e;rw[hn] at hq;cases hq
   rw[hin q e];exact .inl hq
  ·have e:q≠n:=fun e=>by subst e;rw[hn] at hq;cases hq
   rw[hin q e]
   exact .inr ⟨hq,fun b L hb'=>hk.blk b (hlt q b (.tok (L:=L) (by rw[hq,hb']))) (notY q b e (.tok (L:=L) (by rw[hq,hb'])))⟩
  ·by_cases e:q=n
   ·subst e;exact .inr ⟨Y',hnn⟩
   rw[hin q e];exact .inr ⟨Y0,hq⟩
  ·have e:q≠n:=fun e=>by subst e;rw[hn] at hq;cases hq
   rw[hin q e];exact .inr ⟨bs,hq,.refl bs⟩
  have e:q≠n:=fun e=>by subst e;rw[hn] at hq;cases hq
  exact .same (hk.blk b (hlt q b (.own hq)) (notY q b e (.own hq)))
 have hd':Qdu φ':=fun q q' b h1 h2=>by
  have old:∀p,(φ' p).lies b->p≠n->(φ p).lies b:=fun p hp e=>by rwa [hin p e] at hp
  by_cases e:q=n<;>by_cases e':q'=n
  ·rw[e,e']
  ·exfalso
   subst e
   rw[hnn] at h1
   obtain⟨off,hy'⟩:=Qqy h1
   have h3:=old q' h2 e'
   rcases hk.new b off hy' with ⟨off',h4⟩ |h4
   ·exact notY q' b e' h3 off' h4
   have:=hlt q' b h3;omega
  ·exfalso
   subst e'
   rw[hnn] at h2
   obtain⟨off,hy'⟩:=Qqy h2
   have h3:=old q h1 e
   rcases hk.new b off hy' with ⟨off',h4⟩ |h4
   ·exact notY q b e h3 off' h4
   have:=hlt q b h3;omega
  exact hd q q' b (old q h1 e) (old q' h2 e')
 have hslot:∀{o:Option (List α)},J o Y' (grow (wide X φ w D) Y w w') w'->SlotOK X φ' w' n (.far (J o)):=fun {o} hJ'=>⟨Y',_,w',hnn,hJ',⟨fun b off hy'=>⟨hlt' b off hy',rfl,fun off' hx=>?_⟩,fun b off hD hy'=>⟨?_,rfl⟩,rfl,rfl,rfl,Xay _⟩⟩
 ·have hfr:∀(s:Slot) b,b<w.heap.size->(∀p∈[(n,s)],¬(φ p.1).lies b)->w'.heap[b]? = w.heap[b]? := fun s b hb hp=>hk.blk b hb fun off hy=>hp (n,s) (by simp) (.far hn hy)
  have hrest:∀(s:Slot) q,q∉[(n,s)].map (·.1)->φ' q=φ q:=fun s q hq=>hin q (by simpa using hq)
  rcases hcase with ⟨rfl,hJ'⟩ |⟨rfl,hJ'⟩
  ·exact k1 _ φ' w' (.lit _) (fun p hp=>by simp at hp;subst hp;exact hslot hJ') hd' (hrest _) (hfr _) evo
  exact k2 _ φ' w' (.lit _) (fun p hp=>by simp at hp;subst hp;exact hslot hJ') hd' (hrest _) (hfr _) evo
 ·rcases hk.new b off hy' with ⟨off2,h1⟩ |h1
  ·exact(hF.own b off2 h1).2.2 off' hx
  have:=hX b off' hx;omega
 rcases hD with (h1 |h1) |⟨off',h1⟩ |⟨h1,h2⟩
 ·by_cases hy:Y b off
  ·have hF':=hF.own b off hy
   refine⟨Xbc hF'.1 hk.size,hF'.2.2 off,fun q hq=>?_,fun q L hq=>?_,fun q Y0 hq=>?_,fun q bs z hq=>?_⟩
   ·by_cases e:q=n
    ·subst e;rw[hnn] at hq;cases hq
    rw[hin q e] at hq;exact notY q b e (.own hq) off hy
   ·by_cases e:q=n
    ·subst e;rw[hnn] at hq;cases hq
    rw[hin q e] at hq;exact absurd hy (notY q b e (.tok hq) off)
   ·by_cases e:q=n
    ·subst e;rw[hnn] at hq;cases hq;exact hy'
    rw[hin q e] at hq;exact fun hy0=>notY q b e (.far hq hy0) off hy
   by_cases e:q=n
   ·subst e;rw[hnn] at hq;cases hq
   rw[hin q e] at hq;exact fun hz=>notY q b e (.mat hq hz) off hy
  exact(evo.dat b off (hF.dat b off h1 hy).1).1
 ·exact(evo.dat b off h1).1
 ·have hF':=hF.own b off' h1
  refine⟨Xbc hF'.1 hk.size,hF'.2.2 off,fun q hq=>?_,fun q L hq=>?_,fun q Y0 hq=>?_,fun q bs z hq=>?_⟩
  ·by_cases e:q=n
   ·subst e;rw[hnn] at hq;cases hq
   rw[hin q e] at hq;exact notY q b e (.own hq) off' h1
  ·by_cases e:q=n
   ·subst e;rw[hnn] at hq;cases hq
   rw[hin q e] at hq;exact absurd h1 (notY q b e (.tok hq) off')
  ·by_cases e:q=n
   ·subst e;rw[hnn] at hq;cases hq;exact hy'
   rw[hin q e] at hq;exact fun hy0=>notY q b e (.far hq hy0) off' h1
  by_cases e:q=n
  ·subst e;rw[hnn] at hq;cases hq
  rw[hin q e] at hq;exact fun hz=>notY q b e (.mat hq hz) off' h1
 refine⟨h2,fun hx=>?_,fun q hq=>?_,fun q L hq=>?_,fun q Y0 hq=>?_,fun q bs z hq=>?_⟩
 ·have:=hX b off hx;omega
 ·by_cases e:q=n
  ·subst e;rw[hnn] at hq;cases hq
  rw[hin q e] at hq;have:=hlt q b (.own hq);omega
 ·by_cases e:q=n
  ·subst e;rw[hnn] at hq;cases hq
  rw[hin q e] at hq;have:=hlt q b (.tok hq);omega
 ·by_cases e:q=n
  ·subst e;rw[hnn] at hq;cases hq;exact hy'
  rw[hin q e] at hq;exact fun hy0=>by have:=hlt q b (.far hq hy0);omega
 by_cases e:q=n
 ·subst e;rw[hnn] at hq;cases hq
 rw[hin q e] at hq;exact fun hz=>by have:=hlt q b (.mat hq hz);omega
section
variable {P : Program} {X : Nat -> Nat -> Prop} {φ0 : Nat -> FSlot} {w0 : World} {ro : Option Nat} {Q : Exit -> AS -> Prop} {s : AS}
def Qwr {o:Oper}{rd:List (Operand×AV)}{bl:List (Nat×Slot)}{r r':AV}{eff eff':List (Nat×Slot)}{g:Operand×AV}(h:Qsv P o rd bl r eff r' eff'):Qsv P o (g::rd) bl r eff r' eff':=fun X φ a w hr=>h X φ a w fun p hp=>hr p (Xal _ hp)
def Q48 {ops:Array Oper}{l1 l2:List (Oper×Rec)}{i0:Nat}{regs r1 r2:List AV}{own o1 o2:List Slot}{oy:Oper}{c1 c2:Rec}(f1:Facts (some i0) P ops l1 regs own r1 o1) (f2:Facts (some i0) P ops l2 regs own r2 o2) (pre:∀j,j<i0->l1[j]? = l2[j]?)
  (h1:l1[i0]? = some (oy,c1)) (h2:l2[i0]? = some (oy,c2)) (hg:c1.skip=false) (hy:Qsv P oy c1.rd c1.bl c1.r c1.eff c2.r c2.eff) (hlen:l1.length=l2.length) {K:Exit->Act->World->Prop}
  (k1:∀φ' a' w',Sim X φ0 w0 φ' ⟨r1,o1⟩ a' w'->K .normal a' w') (k2:∀φ' a' w',Sim X φ0 w0 φ' ⟨r2,o2⟩ a' w'->K .normal a' w'):∀(m i:Nat),i+m=i0->∀(φ:Nat->FSlot) (a:Act) (w:World),
  RInv X φ0 w0 l1 regs own (fun j=>decide (j<i)) φ a w->RInv X φ0 w0 l2 regs own (fun j=>decide (j<i)) φ a w->wpOpsIn (FR ro) 0 P ops K (List.range' i (l1.length-i)) a w:=by
 have hlt:=(Xad.1 h1).1
 have fitS:∀(l:List (Oper×Rec)) (i:Nat) (o:Oper) (c:Rec),Fit l (fun j=>decide (j<i)) i o c:=fun l i o c=>⟨by simp,fun j o' c' hj=>⟨fun hlt _=>by simpa using hlt,fun hgt _=>by simp;omega⟩⟩
 have eS:∀i,Qg2 (fun j=>decide (j<i)) i=fun j=>decide (j<i+1):=fun i=>by
  funext j
  simp only[Qg2]
  by_cases h1:j<i
  ·simp[h1];omega
  by_cases h2:j=i
  ·subst h2;simp
  have:¬j<i+1:=by omega
  simp[h1,h2,this]
 intro m
 induction m with
 |zero=>
  intro i hi φ a w q1 q2
  obtain rfl:i=i0:=by omega
  rw[show l1.length-i=(l1.length-(i+1))+1 by omega,Xd1,Xfo]
  unfold wpOpIn
  rw[f1.at h1]
  dsimp only
  rw[Xaz (q1.wants f1 h1 (fitS _ _ _ _) hg)]
  refine hy X φ a w (q1.val f1 h1 (fitS _ _ _ _)) (q1.blocks f1 h1 (fitS _ _ _ _)) q1.distinct q1.hid q1.lt _ K (fun v φ' w' hr he hd hn hb hev=>?_) (fun v φ' w' hr he hd hn hb hev=>?_) ro
  ·have:=q1.next f1 h1 (fitS _ _ _ _) hr he hd hn hb hev
   rw[eS] at this
   exact Qqu f1 (l1.length-(i+1)) (i+1) (by omega) (fun j hj e=>by cases e;omega) φ' _ w' this k1
  have:=q2.next f2 h2 (fitS _ _ _ _) hr he hd hn hb hev
  rw[eS] at this
  rw[hlen]
  exact Qqu f2 (l2.length-(i+1)) (i+1) (by omega) (fun j hj e=>by cases e;omega) φ' _ w' this k2
 |succ m ih=>
  intro i hi φ a w q1 q2
  rw[show l1.length-i=(l1.length-(i+1))+1 by omega,Xd1,Xfo]
  obtain⟨p,hp⟩:∃p,l1[i]? = some p:=⟨_,Xab (by omega)⟩
  obtain⟨o,c⟩:=p
  have hp2:l2[i]? = some (o,c):=by rw[<-pre i (by omega)];exact hp
  refine q1.step' f1 hp (fitS _ _ _ _) (fun e=>by cases e;omega) fun v φ' w' hr he hd hn hb hev=>ih (i+1) (by omega) φ' _ w' ?_ ?_
  ·have:=q1.next f1 hp (fitS _ _ _ _) hr he hd hn hb hev
   rwa [eS] at this
  have:=q2.next f2 hp2 (fitS _ _ _ _) hr he hd hn hb hev
  rwa [eS] at this
def AllOkE (P:Program) (ex:Nat):Nat->List (Oper×Rec)->Prop
 |_,[]=>True
 |i,p::l=>(p.2.skip=false->ex≠i->Qd0 P p.1 p.2.rd p.2.bl p.2.r p.2.eff)/\AllOkE P ex (i+1) l
def AllOkE.get {ex:Nat}:∀{l:List (Oper×Rec)}{k:Nat},AllOkE P ex k l->∀(i:Nat) (o:Oper) (c:Rec),l[i]? = some (o,c)->c.skip=false->ex≠k+i->Qd0 P o c.rd c.bl c.r c.eff
 |_::_,_,h,0,o,c,hi=>by simp at hi;subst hi;exact h.1
 |_::_,k,h,i+1,o,c,hi=>fun hs he=>AllOkE.get h.2 i o c (by simpa using hi) hs (by omega)
 |[],_,_,_,_,_,hi=>by simp at hi
def Qqo {ops:Array Oper}{recs:List Rec}{i0:Nat}(hall:AllOkE P i0 0 (ops.toList.zip recs)) (hm:Met ops recs s):Facts (some i0) P ops (ops.toList.zip recs) s.regs s.own (after ops recs s).regs (after ops recs s).own:=by
 obtain⟨h1,h2⟩:=hm
 rw[Xaq] at h2
 obtain⟨h2,h3⟩:=h2
 have hl:ops.toList.length=recs.length:=by simpa using h2
 refine⟨by rw[Xfl (by omega)],fun i o c hi hs hx=>.hard (hall.get i o c hi hs (fun e=>hx (by rw[e,Xar]))),?_,h3⟩
 have e:(ops.toList.zip recs).map (fun p=>(p.2.rd.map (·.2),p.2.bl.map (·.2)))=recs.map (fun c=>(c.rd.map (·.2),c.bl.map (·.2))):=by
  have:(fun p:Oper×Rec=>(p.2.rd.map (·.2),p.2.bl.map (·.2)))=(fun c:Rec=>(c.rd.map (·.2),c.bl.map (·.2))) ∘ Prod.snd:=rfl
  rw[this,<-Xeo,Xhy (by omega)]
 rw[e,<-h1]
 rfl
def Zny {id:Nat}{ops:Array Oper}{y:Code}(i0:Nat) (recs1 recs2:List Rec) {oy:Oper}{c1 c2:Rec}(hm1:Met ops recs1 s) (hm2:Met ops recs2 s) (hp:recs1.take i0=recs2.take i0) (h1:(ops.toList.zip recs1)[i0]? = some (oy,c1)) (h2:(ops.toList.zip recs2)[i0]? = some (oy,c2)) (hg:c1.skip=false)
  (hy:Qsv P oy c1.rd c1.bl c1.r c1.eff c2.r c2.eff) (ha1:AllOkE P i0 0 (ops.toList.zip recs1)) (ha2:AllOkE P i0 0 (ops.toList.zip recs2)) (k1:AWp P X φ0 w0 ro y Q (after ops recs1 s)) (k2:AWp P X φ0 w0 ro y Q (after ops recs2 s)):AWp P X φ0 w0 ro (.seq (.region id ops false) y) Q s:=by
 refine Qzl fun φ a w hs=>Xh9 ?_
 have e1:=hm1.2
 have e2:=hm2.2
 simp only[Xaq,Xbm] at e1 e2
 have hl1:(ops.toList.zip recs1).length=ops.size:=by simp;have:=e1.1;simp at this;omega
 have hl2:(ops.toList.zip recs2).length=ops.size:=by simp;have:=e2.1;simp at this;omega
 have:=Q48 (ro:=ro) (X:=X) (φ0:=φ0) (w0:=w0) (Qqo ha1 hm1) (Qqo ha2 hm2) (fun j hj=>?_) h1 h2 hg hy (by rw[hl1,hl2]) (K:=conc X φ0 w0 (Qx5 (AWp P X φ0 w0 ro y Q) Q)) (fun φ' a' w' hs'=>⟨φ',_,hs',k1⟩) (fun φ' a' w' hs'=>⟨φ',_,hs',k2⟩) i0 0 (by omega) φ a w (by
  have:=RInv.start (l:=ops.toList.zip recs1) (regs:=s.regs) (own:=s.own) hs
  simpa using this) (by
  have:=RInv.start (l:=ops.toList.zip recs2) (regs:=s.regs) (own:=s.own) hs
  simpa using this)
 ·rw[hl1,Xga,<-Xfp] at this
  exact this
 have hr:recs1[j]? = recs2[j]? := by
  have:=Xek (fun l=>l[j]?) hp
  simpa [Xbi,hj] using this
 simp only[List.zip,List.getElem?_zipWith,hr]
end
end
end Go.Proofs.YtcoojdacfknboafGreat
