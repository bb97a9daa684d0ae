/- Part of a proof. -/
import Derived.Laws.BitsAllLaws
import Derived.Deep.MidRow
import Derived.Test.YtajgpcnlehinbaaGreatA04
import Derived.Test.YtajgpcnlehinbaaGreatA08
import Derived.Test.YtajgpcnlehinbaaGreatA10
namespace Go.Proofs.YtajgpcnlehinbaaGreat
open Tryz Go.RowKit
set_option maxRecDepth 100000
set_option maxHeartbeats 60000000
set_option linter.all false
def nO (p:Option Nat):Value:= .pointer (p.map fun b=>⟨b,0,none⟩)
def ringAt (p:Option Nat) (s:Option (iI Int)):SL:=match p,s with|some b,some s=>dG b s|_,_=>emp
def jA (ps:List (Option Nat)) (b:Nat):Obj:= .cells (.bool true::(ps.map nO++ [.int .u64 b])).toArray 395 (0,0)
structure yJ (q:dC) (ps:List (Option Nat)) (b:Nat):Prop where
 ql:q.length=64
 pl:ps.length=64
 word:q.Word b
 same:∀i:Nat,ps[i]?.join.isSome=q[i]?.join.isSome
def sS (r:Nat) (q:dC):SL:=ex fun ps=>ex fun b=>bQ [AQ (yJ q ps b),pts r (jA ps b),bQ (List.zipWith ringAt ps q)]
theorem zA {w0 w:World} {l:List SL} {r:Nat} {q:dC} (h:In w0 w (sS r q::l)):∃ps b,yJ q ps b∧In w0 w (pts r (jA ps b)::bQ (List.zipWith ringAt ps q)::l):=by
 obtain⟨ps,h⟩:=In.aY.1 h
 obtain⟨b,h⟩:=In.aY.1 h
 obtain⟨hp,h⟩:=In.dw.1 (In.bn.1 h)
 exact⟨ps,b,hp,h⟩
theorem Fq {w0 w:World} {l:List SL} {r:Nat} {q:dC} {ps:List (Option Nat)} {b:Nat} (hp:yJ q ps b) (h:In w0 w (pts r (jA ps b)::bQ (List.zipWith ringAt ps q)::l)):In w0 w (sS r q::l):=
 In.aY.2 ⟨ps,In.aY.2 ⟨b,In.bn.2 (In.dw.2 ⟨hp,h⟩)⟩⟩
theorem yJ.ptr {q:dC} {ps:List (Option Nat)} {b p:Nat} {s:iI Int} (h:yJ q ps b) (hq:q[p]? =some (some s)):∃c,ps[p]? =some (some c):=by
 have h1:=h.same p
 rw[hq]at h1
 simp only[Option.join_some,Option.isSome_some]at h1
 cases hx:ps[p]? with
 |none=>rw[hx]at h1;simp at h1
 |some x=>
  rw[hx]at h1
  cases x with
  |none=>simp at h1
  |some c=>exact⟨c,rfl⟩
theorem yJ.lt {q:dC} {ps:List (Option Nat)} {b p:Nat} {x:Option (iI Int)} (h:yJ q ps b) (hq:q[p]? =some x):p<64:=by
 have:=(List.getElem?_eq_some_iff.1 hq).1
 rw[h.ql]at this
 exact this
theorem JM {w0 w:World} {l:List SL} {r p:Nat} {q:dC} {s:iI Int} (h:In w0 w (sS r q::l)) (hq:q[p]? =some (some s)):
 ∃ps b c,yJ q ps b∧p<64∧ps[p]? =some (some c)∧In w0 w (dG c s::pts r (jA ps b)::bQ ((List.zipWith ringAt ps q).eraseIdx p)::l):=by
 obtain⟨ps,b,hp,h1⟩:=zA h
 obtain⟨c,hc⟩:=hp.ptr hq
 refine⟨ps,b,c,hp,hp.lt hq,hc,?_⟩
 have h2:=In.hole (i:=p) (A:=dG c s) (h1.ae p1) (by rw[List.getElem?_zipWith,hc,hq];rfl)
 exact(h2.ae p2).ae p1
theorem CS {w0 w:World} {l:List SL} {r p c b b':Nat} {q:dC} {ps:List (Option Nat)} {s s':iI Int} (hp:yJ q ps b) (hq:q[p]? =some (some s)) (hc:ps[p]? =some (some c)) (hb:dC.Word (q.set p (some s')) b')
 (h:In w0 w (dG c s'::pts r (jA ps b')::bQ ((List.zipWith ringAt ps q).eraseIdx p)::l)):In w0 w (sS r (q.set p (some s'))::l):=by
 have hl:p<(List.zipWith ringAt ps q).length:=by rw[List.length_zipWith,hp.pl,hp.ql];exact hp.lt hq
 have h2:=In.Pn ((h.ae p1).ae p1 |>.ae p2 |>.ae p1) hl
 have e:(List.zipWith ringAt ps q).set p (dG c s')=List.zipWith ringAt ps (q.set p (some s')):=by
  apply List.ext_getElem?
  intro i
  by_cases hi:i=p
  ·subst hi
   have hql:i<q.length:=(List.getElem?_eq_some_iff.1 hq).1
   rw[List.getElem?_set_self hl,List.getElem?_zipWith,hc,List.getElem?_set_self hql]
   rfl
  ·rw[List.getElem?_set_ne (by omega),List.getElem?_zipWith,List.getElem?_zipWith,List.getElem?_set_ne (by omega)]
 rw[e]at h2
 refine Fq (ps:=ps) (b:=b') ⟨by simpa using hp.ql,hp.pl,hb,fun i=>?_⟩ (h2.ae p1)
 rw[hp.same i]
 by_cases hi:i=p
 ·subst hi
  have hql:i<q.length:=(List.getElem?_eq_some_iff.1 hq).1
  rw[hq,List.getElem?_set_self hql]
  rfl
 ·rw[List.getElem?_set_ne (by omega)]
section
variable {w0 w:World} {l:List SL} {r:Nat} {q:dC} {ps:List (Option Nat)} {b:Nat}
theorem Ns (h:In w0 w (pts r (jA ps b)::l)):w.cell? ⟨r,0,none⟩=some (.bool true):=by rw[h.cell];rfl
theorem Df (h:In w0 w (pts r (jA ps b)::l)) {p:Nat} {x:Option Nat} (hx:ps[p]? =some x):w.cell? ⟨r,1+p,none⟩=some (nO x):=by
 have hl:p<ps.length:=(List.getElem?_eq_some_iff.1 hx).1
 rw[h.cell,List.getElem?_toArray,Nat.add_comm,List.getElem?_cons_succ,List.getElem?_append_left (by simpa using hl),List.getElem?_map,hx]
 rfl
theorem CV (h:In w0 w (pts r (jA ps b)::l)) (hp:ps.length=64):w.cell? ⟨r,65,none⟩=some (.int .u64 b):=by
 rw[h.cell,List.getElem?_toArray,List.getElem?_cons_succ,List.getElem?_append_right (by simp[hp]),List.length_map,hp]
 rfl
theorem LM (h:In w0 w (pts r (jA ps b)::l)) (hp:ps.length=64) (b':Nat):In w0 (w.setCell ⟨r,65,none⟩ (.int .u64 b')) (pts r (jA ps b')::l):=by
 have h1:=h.setCell (off:=65) (.int .u64 b')
 have e:(Value.bool true::(ps.map nO++ [.int .u64 b])).toArray.setIfInBounds 65 (.int .u64 b')=(Value.bool true::(ps.map nO++ [.int .u64 b'])).toArray:=by
  rw[List.setIfInBounds_toArray,List.set_cons_succ,List.set_append_right _ _ (by simp[hp]),List.length_map,hp]
  rfl
 rw[e]at h1
 exact h1
theorem Rx (p:Nat) (hp:p<64):IntKind.u64.wrap ((2:Int) ^ p)=((2 ^ p:Nat):Int):=by
 have h1:(2:Nat) ^ p<2 ^ 64:=Nat.pow_lt_pow_right (by decide) hp
 have e:((2:Int) ^ p)=((2 ^ p:Nat):Int):=by simp
 rw[e]
 have h2:2 ^ p<18446744073709551616:=by simpa using h1
 generalize 2 ^ p=k at*
 exact IntWalk.u64_in _ (by omega)
theorem or_bit (b p:Nat) (hb:b<2 ^ 64) (hp:p<64):bits .or .u64 (b:Int) (IntKind.u64.wrap ((2:Int) ^ p))=((b|||2 ^ p:Nat):Int):=by
 rw[Rx p hp]
 exact u64_or_nat b (2 ^ p) (by simpa using hb) (by simpa using Nat.pow_lt_pow_right (by decide) hp)
theorem Z4 (b p:Nat) (hb:b<2 ^ 64) (hp:p<64):bits .andNot .u64 (b:Int) (IntKind.u64.wrap ((2:Int) ^ p))=((b&&& (18446744073709551615-2 ^ p):Nat):Int):=by
 rw[Rx p hp]
 exact u64_andNot_nat b (2 ^ p) (by simpa using hb) (by simpa using Nat.pow_lt_pow_right (by decide) hp)
theorem VS {p:Nat} {x:Option Nat} (h:In w0 w (pts r (jA ps b)::l)) (hp:p<64) (hx:ps[p]? =some x):
 Calls prog 257 #[r,.int .i64 p] w fun e w'=>e= .returned (nO x)∧w=w':=by
 have hc:=Df h hx
 have e1:(0:Int)≤(p:Int):=by omega
 have e2:(p:Int)≤63:=by omega
 clear hx
 go_enter func257,ntmps257
 go_wp2_with fail
 go_ret
 exact⟨rfl,rfl⟩
theorem Om {p:Nat} (h:In w0 w (sS r q::l)) (ht:q.YT p):
 Calls prog 351 #[r] w fun e w'=>e= .returned (.tuple #[.int .i64 p,.bool true])∧w=w':=by
 obtain⟨ps,b,hp,h1⟩:=zA h
 obtain⟨b0,b1⟩:=hp.word.top ht
 have hc:=CV h1 hp.pl
 have hl:=PK b w b0 hp.word.small
 rw[b1]at hl
 have b2:¬(b:Int)=0:=by omega
 have afx:p<64:=by have:=dC.Cj ht.1;rw[hp.ql]at this;exact this
 clear b0 b1
 go_enter func351,ntmps351
 go_wp2_with (go_at_call 406;refine bW hl ?_)
 go_ret2
 exact⟨rfl,rfl⟩
theorem WJ (h:In w0 w (sS r q::l)) (ht:q.Idle):
 Calls prog 351 #[r] w fun e w'=>e= .returned (.tuple #[.int .i64 0,.bool false])∧w=w':=by
 obtain⟨ps,b,hp,h1⟩:=zA h
 have b0:=hp.word.idle ht
 subst b0
 have hc:=CV h1 hp.pl
 go_enter func351,ntmps351
 go_wp2_with fail
 go_ret2
 exact⟨rfl,rfl⟩
theorem YN {p:Nat} {s:iI Int} {x:Int} (h:In w0 w (sS r q::l)) (hq:q[p]? =some (some s)) (hr:s.items.length<s.room):
 Calls prog 380 #[r,.int .i64 p,.int .i64 x,.func (.func 341) #[] #[]] w fun e w'=>
  e= .returned (.int .i64 0)∧In w0 w' (sS r (q.set p (some {s with items:=s.items++ [x]}))::l):=by
 obtain⟨ps,b,c,hp,h64,hc,h1⟩:=JM h hq
 have hat:=VS (h1.ae p1) h64 hc
 have aaG:=Ns (h1.ae p1)
 have e1:(0:Int)≤(p:Int):=by omega
 have e2:(p:Int)≤63:=by omega
 go_enter func380,ntmps380
 go_upto_region 8 with(first|(go_at_call 257;refine bW hat ?_;simp only[nO,Option.map_some])|(go_at_call 341;refine bF (VT x h1 hr) ?_;intro w3 h3))
 have aaH:=CV (h3.ae p1) hp.pl
 have hfz:=(h3.ae p1).free
 have h4:=(LM (h3.ae p1) hp.pl (b|||2 ^ p)).drew
 rw[←or_bit b p hp.word.small h64]at h4
 refine rg ⟨[],[9]⟩ [.c 0 0,.c 0 1,.c 0 2,.c 1 3,.c 0 4,.c 0 5,.c 0 6,.c 0 7,.c 0 8,.e 9] ?_
 refine rG ?_;intro K hK
 go_wp2_with fail
 try refine aS ?_
 go_wp2_with fail
 go_ret
 exact⟨rfl,CS hp hq hc (hp.word.set (by rw[hp.ql];exact h64) h64 (by simp)) (h4.ae p1)⟩
theorem WS {p:Nat} {s:iI Int} {x:Int} (h:In w0 w (sS r q::l)) (hq:q[p]? =some (some s)) (hr:s.items.length<s.room):
 Calls prog 301 #[r,.int .i64 p,.int .i64 x] w fun e w'=>
  e= .returned (.int .i64 0)∧In w0 w' (sS r (q.set p (some {s with items:=s.items++ [x]}))::l):=by
 have hput:=YN (x:=x) h hq hr
 clear hq
 go_enter func301,ntmps301
 go_wp2_with (go_at_call 380;refine bF hput ?_;intro w3 h3)
 go_ret
 exact⟨rfl,h3⟩
theorem MO {p:Nat} {s:iI Int} {x:Int} {xs:List Int} (h:In w0 w (sS r q::l)) (ht:q.YT p) (hq:q[p]? =some (some s)) (hx:s.items=x::xs):
 Calls prog 403 #[r] w fun e w'=>
  e= .returned (.tuple #[.agg #[.int .i64 p,.int .i64 x],.int .i64 0])∧In w0 w' (sS r (q.set p (some {s with items:=xs}))::l):=by
 have h1:=h.alloc (.cells #[.int .i64 0,.int .i64 0] 462)
 go_enter func403,ntmps403
 go_upto_region 1 with(fail)
 refine In.abs h1 ?_
 clear h1 h
 generalize w.heap.size=z
 intro w2 h2
 have hhi:=Om (h2.ae p1) ht
 obtain⟨ps,b,c,hp,h64,hc,h3⟩:=JM (h2.ae p1) hq
 have aaG:=Ns (h3.ae p1)
 have adc:=Df (h3.ae p1) hc
 simp only[nO,Option.map_some]at adc
 have e1:(0:Int)≤(p:Int):=by omega
 have e2:(p:Int)<64:=by omega
 clear h2
 go_upto_region 7 with(first|(go_at_call 351;refine bW hhi ?_)|(go_at_call 242;refine bF (U7 h3 hx) ?_;intro w4 h4))
 have hlen:=VB h4
 have aaI:=Df (h4.ae p1) hc
 simp only[nO,Option.map_some]at aaI
 have aaH:=CV (h4.ae p1) hp.pl
 have hfz:=(h4.ae p1).free
 have aeo:=(h4.ae p3).free
 have hcz:=(h4.ae p3).cells
 clear h3 hhi aaG adc
 cases xs with
 |nil=>
  have h5:=(LM (h4.ae p1) hp.pl (b&&& (18446744073709551615-2 ^ p))).drew
  rw[←Z4 b p hp.word.small h64]at h5
  have hn:(([]:List Int).length:Int)=0:=rfl
  simp only[List.length_nil]at hlen
  go_upto_region 8 with(go_at_call 96;refine bW hlen ?_)
  refine rg ⟨[],[9]⟩ [.c 0 0,.c 0 1,.c 0 2,.c 1 3,.c 0 4,.c 0 5,.c 0 6,.c 0 7,.c 0 8,.e 9] ?_
  refine rG ?_;intro K hK
  go_wp2_with fail
  try refine aS ?_
  go_upto_region 9 with(fail)
  refine In.abs h5 ?_
  clear h5 h4 aaI aaH hfz aeo hcz hlen
  intro w5 h5
  have hcz:=(h5.ae p3).cells
  have hfz:=(h5.ae p3).free
  have h6:=(h5.ae p3).fill [.int .i64 p,.int .i64 x] rfl
  simp only[dm]at h6
  have hcc:=h6.cells
  go_wp2_with fail
  refine bodyPost_ret (v:= .tuple #[.agg #[.int .i64 p,.int .i64 x],.int .i64 0]) (by simp[results,results403,go_sem,hcc]) rfl ?_
  exact⟨rfl,CS hp hq hc (hp.word.clear (by rw[hp.ql];exact h64) h64 rfl) (h6.drop.ae p1)⟩
 |cons y ys=>
  have h5:=(h4.ae p3).fill [.int .i64 p,.int .i64 x] rfl
  simp only[dm]at h5
  have n1:¬(((y::ys).length:Int)=0):=by simp;omega
  go_wp2_with (go_at_call 96;refine bW hlen ?_)
  have hcc:=h5.cells
  refine bodyPost_ret (v:= .tuple #[.agg #[.int .i64 p,.int .i64 x],.int .i64 0]) (by simp[results,results403,go_sem,hcc]) rfl ?_
  exact⟨rfl,CS hp hq hc (hp.word.kept ht.1 (by simp)) h5.drop⟩
def Xc (ps:List (Option Nat)):Value:= .agg (ps.map nO).toArray
theorem abr {p:Nat} {x:Option Nat} (w:World) (hl:ps.length=64) (hx:ps[p]? =some x):(Instr.index 393 (Xc ps) (.int .i64 p)).run prog w= .ok (nO x) w:=by
 have hp:p<64:=by rw[←hl];exact(List.getElem?_eq_some_iff.1 hx).1
 have e1:(0:Int)≤(p:Int):=by omega
 have e2:(p:Int)<64:=by omega
 have hc:(ps.map nO)[p]? =some (nO x):=by simp[hx]
 simp[Instr.index,Xc,part,go_sem,e1,e2,hc,hx,hp,Nat.not_le.2 hp]
theorem abe (w:World):
 Calls prog 96 #[.pointer none] w fun e w'=>e= .returned (.int .i64 0)∧w=w':=by
 go_enter func96,ntmps96
 go_wp2_with (go_at_call 149;refine bW (VY w) ?_)
 go_ret
 exact⟨rfl,rfl⟩
def yI (x:Option (iI Int)):Nat:=match x with|some s=>s.items.length|none=>0
theorem dC.len_eq (q:dC):q.len=(q.map yI).sum:=by
 unfold dC.len
 congr 2
theorem Jg {p:Nat} {x:Option (iI Int)} (hp:yJ q ps b) (h:In w0 w (bQ (List.zipWith ringAt ps q)::l)) (hq:q[p]? =some x):
 yI x≤65536∧∃y,ps[p]? =some y∧Calls prog 96 #[nO y] w fun e w'=>e= .returned (.int .i64 (yI x))∧w=w':=by
 have hlt:p<ps.length:=by rw[hp.pl];exact hp.lt hq
 have hy:=List.getElem?_eq_getElem hlt
 generalize ps[p]=y at hy
 have hs:=hp.same p
 rw[hy,hq]at hs
 cases x with
 |none=>
  cases y with
  |none=>exact⟨Nat.zero_le _,_,hy,abe w⟩
  |some c=>simp at hs
 |some s=>
  cases y with
  |none=>simp at hs
  |some c=>
   have h2:=In.hole (i:=p) (A:=dG c s) h (by rw[List.getElem?_zipWith,hy,hq];rfl)
   obtain⟨v,gV,m,sl,high,ha,_⟩:=kL h2
   exact⟨Nat.le_trans ha.fits ha.rM,_,hy,VB h2⟩
theorem Tv (h:In w0 w (pts r (jA ps b)::l)):w.rangeAt r 1 (ps.map nO):=by
 intro j v hj
 have hx:∃x,ps[j]? =some x∧nO x=v:=by simpa using hj
 obtain⟨x,hx,rfl⟩:=hx
 exact Df h hx
theorem Zt (h:In w0 w (sS r q::l)):
 Calls prog 348 #[r] w fun e w'=>e= .returned (.int .i64 q.len)∧w=w':=by
 obtain⟨ps,b,hp,h1⟩:=zA h
 have hrg:=Tv h1
 rw[dC.len_eq]
 go_enter func348,ntmps348
 go_upto_region 3 with(fail)
 go_wp2_with (with_reducible apply JD 393)
 unfold Stop
 refine wpList_load_mid rfl _ _ rfl r 1 (by rfl) (ps.map nO) _ hrg underlying393 rfl (by rw[List.length_map,hp.pl];kernel_rfl) ?_
 have hix:=fun(i:Nat) (x:Option Nat) (w:World) (hx:ps[i]? =some x)=>abr w hp.pl hx
 unfold Xc at hix
 have hbound:∀k,k≤64→((q.take k).map yI).sum≤k*65536:=by
  intro k hk
  induction k with
  |zero=>simp
  |succ k ih=>
   have hlt:k<q.length:=by rw[hp.ql];omega
   have h2:=(Jg hp (h1.ae p1) (p:=k) (List.getElem?_eq_getElem hlt)).1
   rw[List.take_succ_eq_append_getElem hlt,List.map_append,List.sum_append]
   have:=ih (by omega)
   simp only[List.map_cons,List.map_nil,List.sum_cons,List.sum_nil]
   omega
 go_upto_region 4 with(fail)
 clear hrg
 go_loopw [3,5,12] (fun n _ c wr=>∃k:Nat,k≤64∧c= .int .i64 k∧n= .int .i64 (((q.take k).map yI).sum:Nat)∧wr=w)
  (fun _ _ c _=>64-(intOf c).toNat)
 case atStart=>exact⟨0,Nat.zero_le _,rfl,rfl,rfl⟩
 case round=>
  obtain⟨k,hk,rfl,rfl,rfl⟩:=hrel
  by_cases hlt:k<64
  ·have hkq:k<q.length:=by rw[hp.ql];exact hlt
   obtain⟨b1,y,hy,hcall⟩:=Jg hp (h1.ae p1) (p:=k) (List.getElem?_eq_getElem hkq)
   have hi:=fun w=>hix k y w hy
   have b2:=hbound (k+1) hlt
   rw[List.take_succ_eq_append_getElem hkq,List.map_append,List.sum_append]at b2
   simp only[List.map_cons,List.map_nil,List.sum_cons,List.sum_nil,Nat.add_zero]at b2
   have e1:(k:Int)<64:=by omega
   have hnext:((q.take (k+1)).map yI).sum=((q.take k).map yI).sum+yI q[k]:=by
    rw[List.take_succ_eq_append_getElem hkq,List.map_append,List.sum_append]
    simp
   generalize yI q[k]=m at*
   generalize ((q.take k).map yI).sum=n at*
   clear hix hbound hy
   go_wp2_with (go_at_call 96;refine bW hcall ?_)
   go_roundw
   case rel=>exact⟨k+1,hlt,by go_num,by rw[hnext];go_num,by trivial⟩
   case measure=>simp[intOf]<;>omega
  ·have:k=64:=by omega
   subst this
   have e1:¬((64:Nat):Int)<64:=by omega
   go_wp2_with fail
   go_ret
   refine⟨?_,rfl⟩
   have:(q.map yI).take 64=q.map yI:=List.take_of_length_le (by rw[List.length_map,hp.ql];exact Nat.le_refl _)
   rw[this]
   rfl
end
def Ints (v:Value) (l:List Int):SL:=Row 3 1 v l.length (l.map jf).flatten
def sV (b:Nat) (l:List Int):SL:=ex fun v=>bQ [pts b (.cells #[v] 44),Ints v l]
section
variable {w0 w:World} {l:List SL} {r:Nat} {q:dC}
theorem mf {b:Nat} {xs:List Int} (h:In w0 w (sV b xs::l)):∃v,In w0 w (pts b (.cells #[v] 44)::Ints v xs::l):=by
 obtain⟨v,h⟩:=In.aY.1 h
 exact⟨v,In.bn.1 h⟩
theorem mg {b:Nat} {xs:List Int} {v:Value} (h:In w0 w (pts b (.cells #[v] 44)::Ints v xs::l)):In w0 w (sV b xs::l):=In.aY.2 ⟨v,In.bn.2 h⟩
theorem TB {p c b:Nat} {ps:List (Option Nat)} {s:iI Int} (hp:yJ q ps b) (hq:q[p]? =some (some s)) (hc:ps[p]? =some (some c))
 (h:In w0 w (dG c s::pts r (jA ps b)::bQ ((List.zipWith ringAt ps q).eraseIdx p)::l)):In w0 w (sS r q::l):=by
 obtain⟨hl,e⟩:=List.getElem?_eq_some_iff.1 hq
 have e2:q.set p (some s)=q:=by rw[←e,List.set_getElem_self]
 have h2:=CS (s':=s) hp hq hc (by rw[e2];exact hp.word) h
 rwa[e2]at h2
theorem WB {p:Nat} {s:iI Int} (h:In w0 w (sS r q::l)) (hq:q[p]? =some (some s)):
 Calls prog 118 #[r,.int .i64 p] w fun e w'=>∃v,e= .returned v∧In w0 w' (Ints v s.items::sS r q::l):=by
 have h1:=h.alloc (.cells #[.slice none 0 0] 44)
 have hmf:∀(fn:Fn) (first cap:Array Value) (w:World),(Instr.makeFunc fn first cap).run prog w= .ok (.func fn first cap) w:=fun _ _ _ _=>rfl
 refine ku func118 rfl ?_
 simp only[ntmps118,List.size_toArray,List.length_cons,List.length_nil,Nat.reduceAdd,Nat.reduceSub,Array.replicate_succ,Array.replicate_zero,List.push_toArray,List.append_toArray,List.nil_append,List.cons_append]
 go_upto_region 2 with(fail)
 refine In.abs h1 ?_
 clear h1 h
 generalize w.heap.size=z
 intro w2 h2
 obtain⟨ps,b,c,hp,h64,hc,h3⟩:=JM (h2.ae p1) hq
 have hat:=VS (h3.ae p1) h64 hc
 have afy:s.items.length≤65536:=by
  obtain⟨v,gV,m,sl,high,ha,_⟩:=kL h3
  exact Nat.le_trans ha.fits ha.rM
 go_wp2_with (first|(go_at_call 257;refine bW hat ?_;simp only[nO,Option.map_some])|(go_at_call 239;refine(aat _ h3).mono ?_;rintro _ w4 ⟨d,rfl,h4⟩))
 have h5:In w0 w4 (star (dG c s) (pts d (.cells #[c] 88 (0,0)))::sV z []::pts r (jA ps b)::bQ ((List.zipWith ringAt ps q).eraseIdx p)::l):=
  In.dP.2 (((mg (((h4.ae p4).dh 3 1).ae p1)).ae p1).ae p2)
 refine pY (fun pre=>sV z pre) (fun _ _=>AQ False) (Vb s c d) h5 rfl (by rfl) (fun _ _=>rfl) (by simp[gy,lQ]) (by simp) ?_ ?_ ?_
 ·intro pre x w5 R hpre h6
  obtain⟨v,h7⟩:=mf h6
  have hlen:=(h7.ae p1).pJ.2
  have hpl:=hpre.length_le
  rw[List.length_append,List.length_singleton]at hpl
  have fc_:=h7.facts
  refine qf (sJ ?_)
  simp only[List.setIfInBounds_toArray,List.set_cons_zero,List.set_cons_succ]
  go_wp2_with (with_reducible apply bH)
  unfold Stop
  refine aZ Es ((h7.ae p1).alloc (.cells (jf x).toArray 3)) rfl rfl rfl (qx x) (by omega) ?_
  intro u w6 h8
  obtain⟨rE,cap2,rfl⟩:=h8.aG
  have fc_:=h8.facts
  go_wp2_with fail
  have h9:In w0 _ (pts z (.cells #[.slice rE (pre.length+1) cap2] 44)::_):=(h8.ae p1).setCell (off:=0) (.slice rE (pre.length+1) cap2)
  have e:Row 3 1 (.slice rE (pre.length+1) cap2) (pre.length+1) ((pre.map jf).flatten++jf x)=Ints (.slice rE (pre.length+1) cap2) (pre++ [x]):=by unfold Ints;simp
  rw[e]at h9
  exact mg h9
 ·intro D w5 h6
  obtain⟨v,h7⟩:=mf (h6.ae p2)
  have h7':=h7.ae p2
  have fc_:=h7.facts
  go_wp2_with fail
  refine fP h7' (by rfl) (fun w'=>results_tmp rfl _ _ _) (fun w' hw'=>⟨_,rfl,?_⟩) .ret (.inl rfl)
  have a1:=((In.dP.1 (hw'.drop.ae p1)).ae p1).drop
  exact(TB hp hq hc (((a1.ae p3).ae p3).ae p2)).ae p1
 ·intro D c' pre w5 hpre h6
  exact(In.dw.1 (h6.ae p2)).1.elim
end
def Ed (xs:List Int) (k:Nat):List Int:=(List.range xs.length).map fun t=>if t<k∨xs.length-k≤t then xs.getD (xs.length-1-t) 0 else xs.getD t 0
theorem tY (xs:List Int) (k:Nat):(Ed xs k).length=xs.length:=by simp[Ed]
theorem wU (xs:List Int) (k t:Nat) (h:t<xs.length):(Ed xs k)[t]? =some (if t<k∨xs.length-k≤t then xs.getD (xs.length-1-t) 0 else xs.getD t 0):=by
 simp[Ed,h]
theorem Sl (xs:List Int):Ed xs 0=xs:=by
 apply List.ext_getElem?
 intro t
 by_cases h:t<xs.length
 ·rw[wU xs 0 t h,if_neg (by omega)]
  simp[h]
 ·rw[List.getElem?_eq_none (by rw[tY];omega),List.getElem?_eq_none (by omega)]
theorem Um (xs:List Int) (k:Nat) (hk:xs.length≤2*k+1):Ed xs k=xs.reverse:=by
 apply List.ext_getElem?
 intro t
 by_cases h:t<xs.length
 ·rw[wU xs k t h]
  have hr:xs.reverse[t]? =some (xs.getD (xs.length-1-t) 0):=by
   rw[List.getElem?_reverse h]
   simp[show xs.length-1-t<xs.length by omega]
  rw[hr]
  split
  ·rfl
  ·have:t=xs.length-1-t:=by omega
   rw[←this]
 ·rw[List.getElem?_eq_none (by rw[tY];omega),List.getElem?_eq_none (by simp;omega)]
theorem SK (xs:List Int) (k:Nat) (hk:2*k+1<xs.length):((Ed xs k).set k (xs.getD (xs.length-1-k) 0)).set (xs.length-1-k) (xs.getD k 0)=Ed xs (k+1):=by
 apply List.ext_getElem?
 intro t
 by_cases h:t<xs.length
 ·rw[wU xs (k+1) t h]
  by_cases h1:t=xs.length-1-k
  ·rw[h1,List.getElem?_set_self (by simp[tY];omega),if_pos (by omega)]
   congr 2
   omega
  ·rw[List.getElem?_set_ne (by omega)]
   by_cases h2:t=k
   ·rw[h2,List.getElem?_set_self (by rw[tY];omega),if_pos (by omega)]
   ·rw[List.getElem?_set_ne (by omega),wU xs k t h]
    congr 1
    by_cases h3:t<k∨xs.length-k≤t
    ·rw[if_pos h3,if_pos (by omega)]
    ·rw[if_neg h3,if_neg (by omega)]
 ·rw[List.getElem?_eq_none (by simp[tY];omega),List.getElem?_eq_none (by rw[tY];omega)]
section
variable {w0 w:World} {l:List SL}
theorem Nb:∀(A:List Int),(A.map jf).flatten=A.map (fun i=>Value.int .i64 i)
 | []=>rfl
 |x::r=>by rw[List.map_cons,List.flatten_cons,Nb r];rfl
theorem Gv {v:Value} {xs:List Int} (h:In w0 w (Ints v xs::l)):
 Calls prog 255 #[v] w fun e w'=>(∃u,e= .returned u)∧In w0 w' (Ints v xs.reverse::l):=by
 obtain⟨ao,cap,rfl⟩:=In.aG (E:=3) (size:=1) h
 have hmax:=(show In w0 w (Row 3 1 _ xs.length _::l) from h).pJ.2
 unfold maxLen at hmax
 have e0:wrap64 ((xs.length:Int)-1)=(xs.length:Int)-1:=by unfold wrap64;omega
 go_enter func255,ntmps255
 go_wp2_with fail
 go_loopw [2,3] (fun i j wr=>∃k:Nat,2*k≤xs.length+1∧i= .int .i64 k∧j= .int .i64 ((xs.length:Int)-1-k)∧In w0 wr (Ints (.slice ao xs.length cap) (Ed xs k)::l))
  (fun i _ _=>xs.length-(intOf i).toNat)
 case atStart=>exact⟨0,by omega,rfl,by first|rfl|simp,by rw[Sl];exact h⟩
 case round=>
  obtain⟨k,hk,rfl,rfl,hw⟩:=hrel
  clear h
  by_cases hlt:2*k+1<xs.length
  ·obtain⟨m,hm⟩:∃m:Nat,xs.length-1-k=m:=⟨_,rfl⟩
   have hmi:(xs.length:Int)-1-k=(m:Int):=by omega
   rw[hmi]
   have hstep:=SK xs k hlt
   have hg1:(Ed xs k)[k]? =some (xs.getD k 0):=by rw[wU xs k k (by omega),if_neg (by omega)]
   have hg2:(Ed xs k)[m]? =some (xs.getD m 0):=by rw[wU xs k m (by omega),if_neg (by omega)]
   rw[hm]at hstep
   have hlen:=tY xs k
   unfold Ints at hw
   rw[Nb,hlen]at hw
   rcases hw.aU with⟨_,e,_⟩|⟨g,cap2,ext,e,_⟩
   ·omega
   cases e
   have hc1:wr.cell? ⟨g,k,none⟩=some (.int .i64 (xs.getD k 0)):=hw.gI (by simp[hg1])
   have hc2:wr.cell? ⟨g,m,none⟩=some (.int .i64 (xs.getD m 0)):=hw.gI (by simp[hg2])
   have hf:∀o,wr.frozen? ⟨g,o,none⟩=false:=fun _=>hw.fH
   have h2:=(hw.qU (off:=k) (u:= .int .i64 (xs.getD m 0)) (by simp[hlen];omega) rfl).qU (off:=m) (u:= .int .i64 (xs.getD k 0)) (by simp[hlen];omega) rfl
   have e2:(((Ed xs k).map (fun i=>Value.int .i64 i)).set k (.int .i64 (xs.getD m 0))).set m (.int .i64 (xs.getD k 0))=(Ed xs (k+1)).map (fun i=>Value.int .i64 i):=by
    rw[←hstep,List.map_set,List.map_set]
   rw[e2]at h2
   have n1:(k:Int)<(m:Int):=by omega
   have n2:(k:Int)<(xs.length:Int):=by omega
   have n3:(m:Int)<(xs.length:Int):=by omega
   have hne:¬k=m:=by omega
   have hne2:¬m=k:=by omega
   clear hw e2 hstep
   generalize xs.getD k 0=y1 at*
   generalize xs.getD m 0=y2 at*
   go_upto_region 3 with(fail)
   refine rg ⟨[],[13,15]⟩ [.c 0 0,.c 0 1,.c 0 2,.c 0 3,.c 0 4,.c 0 5,.c 0 6,.c 1 7,.c 0 8,.c 0 9,.c 0 10,.c 1 11,.c 0 12,.e 13,.c 0 14,.e 15] ?_
   refine rG ?_;intro K hK
   go_wp2_with fail
   refine rG ?_;intro K hK
   go_wp2_with fail
   try refine aS ?_
   go_wp2_with fail
   go_roundw
   case rel=>
    refine⟨k+1,by omega,by go_num,?_,?_⟩
    ·congr 1
     omega
    ·unfold Ints
     rw[Nb,tY]
     exact h2.drew
   case measure=>simp[intOf]<;>omega
  ·have hd:=Um xs k (by omega)
   rw[hd]at hw
   have n1:¬((k:Int)<(xs.length:Int)-1-k):=by omega
   go_wp2_with fail
   go_end0
   exact⟨⟨_,rfl⟩,hw⟩
end
section
variable {w0 w:World} {l:List SL} {r:Nat} {q:dC}
theorem Qd:zeroCells395.setIfInBounds 0 (.bool true)=
 (Value.bool true::((List.replicate 64 (none:Option Nat)).map nO++ [.int .u64 (0:Nat)])).toArray:=by
 kernel_rfl
theorem Po {ps:List (Option Nat)} {b k:Nat} {x:Option Nat} (h:In w0 w (pts r (jA ps b)::l)) (hk:k<ps.length):
 In w0 (w.setCell ⟨r,1+k,none⟩ (nO x)) (pts r (jA (ps.set k x) b)::l):=by
 have h1:=h.setCell (off:=1+k) (nO x)
 have e:(Value.bool true::(ps.map nO++ [.int .u64 b])).toArray.setIfInBounds (1+k) (nO x)=(Value.bool true::((ps.set k x).map nO++ [.int .u64 b])).toArray:=by
  rw[List.setIfInBounds_toArray,Nat.add_comm,List.set_cons_succ,List.set_append_left _ _ (by simpa using hk),←List.map_set]
 rw[e]at h1
 exact h1
theorem Gp {n:Nat} (h:In w0 w l):In w0 w (bQ (List.replicate n emp)::l):=by
 induction n with
 |zero=>exact In.Ai.2 h
 |succ n ih=>rw[List.replicate_succ];exact In.pR.2 (In.Ce.2 ih)
theorem Ug (h:In w0 w (pts r (jA (List.replicate 64 none) 0)::l)):In w0 w (sS r (tu [])::l):=by
 refine Fq (ps:=List.replicate 64 none) (b:=0) ⟨by simp[tu],by simp,⟨by decide,fun i=>?_⟩,fun i=>?_⟩ ?_
 ·rw[Nat.zero_testBit]
  unfold dC.busy tu
  rw[List.foldl_nil,List.getElem?_replicate]
  by_cases hi:i<64<;>simp[hi]
 ·unfold tu
  rw[List.foldl_nil,List.getElem?_replicate,List.getElem?_replicate]
  by_cases hi:i<64<;>simp[hi]
 ·have e:List.zipWith ringAt (List.replicate 64 none) (tu [])=List.replicate 64 emp:=by
   unfold tu
   rw[List.foldl_nil,List.zipWith_replicate']
   rfl
  rw[e]
  exact(Gp h).ae p1
theorem Y3 {p c b:Nat} {ps:List (Option Nat)} {s:iI Int} (hp:yJ q ps b) (hq:q[p]? =some none) (hs:s.items= [])
 (h:In w0 w (dG c s::pts r (jA (ps.set p (some c)) b)::bQ (List.zipWith ringAt ps q)::l)):In w0 w (sS r (q.set p (some s))::l):=by
 have hql:p<q.length:=(List.getElem?_eq_some_iff.1 hq).1
 have hpl:p<ps.length:=by rw[hp.pl,←hp.ql];exact hql
 have hy:=List.getElem?_eq_getElem hpl
 have hs2:=hp.same p
 rw[hy,hq]at hs2
 have hyn:ps[p]=none:=by
  cases hx:ps[p]with
  |none=>rfl
  |some c=>rw[hx]at hs2;simp at hs2
 rw[hyn]at hy
 have hl:p<(List.zipWith ringAt ps q).length:=by rw[List.length_zipWith];omega
 have h1:=In.hole (i:=p) (A:=emp) ((h.ae p1).ae p2) (by rw[List.getElem?_zipWith,hy,hq];rfl)
 have h2:=In.Pn ((In.Ce.1 h1).ae p2 |>.ae p0) hl
 have e:(List.zipWith ringAt ps q).set p (dG c s)=List.zipWith ringAt (ps.set p (some c)) (q.set p (some s)):=by
  apply List.ext_getElem?
  intro i
  by_cases hi:i=p
  ·subst hi
   rw[List.getElem?_set_self hl,List.getElem?_zipWith,List.getElem?_set_self hpl,List.getElem?_set_self hql]
   rfl
  ·rw[List.getElem?_set_ne (by omega),List.getElem?_zipWith,List.getElem?_zipWith,List.getElem?_set_ne (by omega),List.getElem?_set_ne (by omega)]
 rw[e]at h2
 refine Fq (ps:=ps.set p (some c)) (b:=b) ⟨by simpa using hp.ql,by simpa using hp.pl,hp.word.fresh hq hs,fun i=>?_⟩ (h2.ae p1)
 by_cases hi:i=p
 ·subst hi
  rw[List.getElem?_set_self hpl,List.getElem?_set_self hql]
  rfl
 ·rw[List.getElem?_set_ne (by omega),List.getElem?_set_ne (by omega)]
  exact hp.same i
def iR (x:kS):List Value:=[.int .i64 x.aI,.int .i64 x.cap]
end
end Go.Proofs.YtajgpcnlehinbaaGreat
