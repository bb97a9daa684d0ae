/- Part of a proof. -/
import Derived.Test.YtajgpcnlehinbaaGreatA24
namespace Go.Proofs.YtajgpcnlehinbaaGreat
open Tryz Go.RowKit
set_option maxRecDepth 100000
set_option maxHeartbeats 60000000
set_option linter.all false
section
variable {w0 w:World} {l:List SL} {r q:Nat} {bs:List Nat}
theorem Zh {p c:Nat} (h:In w0 w (mV r (p::(le c 2++bs))::pts q (iZ r)::l)) (hp:p<256) (hc0:c<65536):
 aW 166 #[q] w w0 (.agg #[.int .i64 p,.int .i64 c]) (mV r bs::pts q (iZ r)::l):=by
 have hcv1:=wrap64 (x:=c) (by omega)
 have h2:=h.alloc (Ik 0 0)
 go_enter func166,ntmps166
 go_upto_region 1 with(fail)
 refine In.abs h2 ?_
 clear h2 h
 generalize w.heap.size=z
 intro w2 h2
 have h3:=h2.pr [1,1,0]
 clear h2
 have bC:=(h3.ae p1).cells
 have hS0:=(h3.drew).ps [1]
 refine nK hS0 ⟨[1],[3,6]⟩ [.c 1 0,.c 2 2,.e 1,.e 3,.c 0 4,.c 0 5,.e 6] ?_
 refine nD ?_;intro K hK
 go_wp2_with (go_at_call 162;refine bF (iW h3.drew hp) ?_;intro w4 h4)
 go_wp2_with fail
 refine df hK ((h4).s) fun hS0=>?_
 refine bG rfl rfl fun K hK=>?_
 go_wp2_with (go_at_call 158;refine bF (qI h4 (by omega) (by omega) (by omega)) ?_;intro w5 h5)
 have hzc:=(h5.ae p2).cells
 have Hr:=(h5.ae p2).free
 go_wp2_with fail
 refine uw ?_;intro K hK
 go_wp2_with fail
 try refine aS ?_
 go_wp2_with fail
 have h6:=(h5.ae p2).fill [.int .i64 p,.int .i64 c] rfl
 simp only[dm]at h6
 refine In.abs h6 ?_
 clear h6 hzc Hr
 intro wz h6
 have hc:=h6.cells
 refine bodyPost_ret (v:= .agg #[.int .i64 p,.int .i64 c]) (by simp[results,results166,go_sem,hc]) rfl ?_
 exact⟨rfl,h6.s⟩
theorem abn {a b c:Nat} (h:In w0 w (mV r (le a 4++(le b 4++(le c 4++bs)))::pts q (iZ r)::l)) (ha:a<4294967296) (hb:b<4294967296) (hc0:c<4294967296):
 aW 171 #[q] w w0 (.agg #[.int .u32 a,.int .u32 b,.int .u32 c]) (mV r bs::pts q (iZ r)::l):=by
 have hcv1:=wrap32 ha
 have hcv2:=wrap32 hb
 have aeQ:=wrap32 hc0
 have h2:=h.alloc (Il 0 0 0)
 go_enter func171,ntmps171
 go_upto_region 1 with(fail)
 refine In.abs h2 ?_
 clear h2 h
 generalize w.heap.size=z
 intro w2 h2
 have h3:=h2.pr [1,1,0]
 clear h2
 have bC:=(h3.ae p1).cells
 have hS0:=(h3.drew).ps [1]
 refine nK hS0 ⟨[1,4],[7,10]⟩ [.c 1 0,.c 2 3,.c 2 6,.e 1,.c 0 2,.e 4,.c 0 5,.e 7,.c 0 8,.c 0 9,.e 10] ?_
 refine nD ?_;intro K hK
 go_wp2_with (go_at_call 158;refine bF (qI h3.drew (by omega) (by omega) (by omega)) ?_;intro w4 h4)
 go_wp2_with fail
 refine df hK ((h4).s) fun hS0=>?_
 refine nD ?_;intro K hK
 go_wp2_with (go_at_call 158;refine bF (qI h4 (by omega) (by omega) (by omega)) ?_;intro w5 h5)
 go_wp2_with fail
 refine df hK ((h5).s) fun hS0=>?_
 refine uw ?_;intro K hK
 go_wp2_with (go_at_call 158;refine bF (qI h5 (by omega) (by omega) (by omega)) ?_;intro w6 h6)
 have hzc:=(h6.ae p2).cells
 have Hr:=(h6.ae p2).free
 go_wp2_with fail
 refine uw ?_;intro K hK
 go_wp2_with fail
 try refine aS ?_
 go_wp2_with fail
 have h7:=(h6.ae p2).fill [.int .u32 a,.int .u32 b,.int .u32 c] rfl
 simp only[dm]at h7
 refine In.abs h7 ?_
 clear h7 hzc Hr
 intro wz h7
 have hc:=h7.cells
 refine bodyPost_ret (v:= .agg #[.int .u32 a,.int .u32 b,.int .u32 c]) (by simp[results,results171,go_sem,hc]) rfl ?_
 exact⟨rfl,h7.s⟩
theorem abX {k p:Nat} {own:List Nat} (h:In w0 w (mV r (k::p::own.length::(own++bs))::pts q (iZ r)::l)) (hk:k<256) (hp:p<256) (hown:∀x∈own,x<256) (hol:own.length<256):
 Calls prog 176 #[q] w fun e w'=>∃u,e= .returned (.agg #[.int .i64 k,.int .i64 p,u])∧In w0 w' (Row 3 1 u own.length (uh own)::mV r bs::pts q (iZ r)::l):=by
 have h2:=h.alloc (.cells #[.int .i64 0,.int .i64 0,.slice none 0 0] 123)
 go_enter func176,ntmps176
 go_upto_region 1 with(fail)
 refine In.abs h2 ?_
 clear h2 h
 generalize w.heap.size=z
 intro w2 h2
 have h3:=h2.pr [1,1,0]
 clear h2
 have bC:=(h3.ae p1).cells
 have hS0:=(h3.drew).ps [1]
 refine nK hS0 ⟨[1,3],[5,7]⟩ [.c 1 0,.c 2 2,.c 2 4,.e 1,.e 3,.e 5,.c 0 6,.e 7] ?_
 refine nD ?_;intro K hK
 go_wp2_with (go_at_call 162;refine bF (iW h3.drew hk) ?_;intro w4 h4)
 go_wp2_with fail
 refine df hK ((h4).s) fun hS0=>?_
 refine gz rfl rfl fun K hK=>?_
 go_wp2_with (go_at_call 162;refine bF (iW h4 hp) ?_;intro w5 h5)
 go_wp2_with fail
 refine df hK ((h5).s) fun hS0=>?_
 refine bG rfl rfl fun K hK=>?_
 go_wp2_with (go_at_call 177;refine(QT h5 hown hol).mono ?_;rintro _ w6 ⟨u,rfl,h60⟩;obtain⟨ao,co,rfl⟩:=h60.aG;have h6:=h60.ae p1)
 have hzc:=(h6.ae p3).cells
 have Hr:=(h6.ae p3).free
 go_wp2_with fail
 refine uw ?_;intro K hK
 go_wp2_with fail
 try refine aS ?_
 go_wp2_with fail
 have h7:=(h6.ae p3).fill [.int .i64 k,.int .i64 p,.slice ao own.length co] rfl
 simp only[dm]at h7
 refine In.abs h7 ?_
 clear h7 hzc Hr
 intro wz h7
 have hc:=h7.cells
 refine bodyPost_ret (v:= .agg #[.int .i64 k,.int .i64 p,.slice ao own.length co]) (by simp[results,results176,go_sem,hc]) rfl ?_
 exact⟨.slice ao own.length co,rfl,h7.s⟩
theorem abP {int:Bool} {c:Nat} (h:In w0 w (mV r (mQ int::c::bs)::pts q (iZ r)::l)) (hc0:c<256):
 aW 168 #[q] w w0 (.agg #[.bool int,.int .i64 ((c:Int)-1)]) (mV r bs::pts q (iZ r)::l):=by
 have hfl:mQ int<256:=by cases int<;>decide
 have h2:=h.alloc (L6 false 0)
 go_enter func168,ntmps168
 go_upto_region 1 with(fail)
 refine In.abs h2 ?_
 clear h2 h
 generalize w.heap.size=z
 intro w2 h2
 have h3:=h2.pr [1,1,0]
 clear h2
 have bC:=(h3.ae p1).cells
 have hS0:=(h3.drew).ps [1]
 refine nK hS0 ⟨[1],[3]⟩ [.c 1 0,.c 2 2,.e 1,.e 3,.c 0 4,.c 0 5] ?_
 refine nD ?_;intro K hK
 go_wp2_with (go_at_call 162;refine bF (iW h3.drew hfl) ?_;intro w4 h4)
 go_wp2_with fail
 refine df hK ((h4).s) fun hS0=>?_
 refine bG rfl rfl fun K hK=>?_
 go_wp2_with (go_at_call 162;refine bF (iW h4 hc0) ?_;intro w5 h5)
 go_wp2_with fail
 refine wM ?_
 have hzc:=(h5.ae p2).cells
 have Hr:=(h5.ae p2).free
 have hp:=fun w=>Rh (b:=int) w
 go_wp2_with (go_at_call 169;refine bW (hp _) ?_)
 have h6:=(h5.ae p2).fill [.bool int,.int .i64 ((c:Int)-1)] rfl
 simp only[dm]at h6
 refine In.abs h6 ?_
 clear h6 hzc Hr
 intro wz h6
 have hc:=h6.cells
 refine bodyPost_ret (v:= .agg #[.bool int,.int .i64 ((c:Int)-1)]) (by simp[results,results168,go_sem,hc]) rfl ?_
 exact⟨rfl,h6.s⟩
theorem Wv {c:Nat} (h:In w0 w (mV r (le c 2++bs)::pts q (iZ r)::l)) (hc0:c<65536):
 aW 161 #[q] w w0 (.int .i64 c) (mV r bs::pts q (iZ r)::l):=by
 have hcv:=wrap64 (x:=c) (by omega)
 have bC:=(h.ae p1).cells
 have hp:=qI h (by omega) (by omega) (by omega)
 go_enter func161,ntmps161
 go_wp2_with (go_at_call 158;refine bF hp ?_;intro w3 h3)
 go_ret
 exact⟨rfl,h3⟩
end
def uZ (k:dn):List Nat:=iV (k,.slice none 0 0)
def x9 (k:kG):List Nat:=lq (k,.slice none 0 0)
theorem qy {α:Type} {f:α→List Nat} {xs:List α} {k:Nat} {bs:List Nat} (h:k<xs.length):((xs.drop k).map f).flatten++bs=f xs[k]++(((xs.drop (k+1)).map f).flatten++bs):=by
 rw[List.drop_eq_getElem_cons h,List.map_cons,List.flatten_cons,List.append_assoc]
theorem jE {x:Int} (h:0≤x):∃n:Nat,x=n:=⟨x.toNat,by omega⟩
theorem QN {x:Int} (h: -1≤x):∃n:Nat,x=(n:Int)-1:=⟨(x+1).toNat,by omega⟩
theorem JU:∀ {l:List Int},(∀x∈l,0≤x∧x≤255)→∃ns:List Nat,l=ns.map (fun(n:Nat)=>(n:Int))∧∀n∈ns,n<256
 | [],_=>⟨[],rfl,by simp⟩
 |x::r,h=>by
  obtain⟨ns,e,hn⟩:=JU (l:=r) fun y hy=>h y (List.mem_cons_of_mem _ hy)
  have h1:=h x (by simp)
  exact⟨x.toNat::ns,by rw[List.map_cons,←e];congr 1;omega,fun n hn'=>by
   rcases List.mem_cons.1 hn' with rfl|hn'
   ·omega
   ·exact hn n hn'⟩
theorem Jr {ns:List Nat}:ik (ns.map fun(n:Nat)=>(n:Int))=ns:=by unfold ik;rw[List.map_map];exact List.map_id'' (fun n=>by simp) ns
theorem IL {ns:List Nat}:ints (ns.map fun(n:Nat)=>(n:Int))=uh ns:=by unfold ints uh;rw[List.map_map];rfl
section
variable {w0 w:World} {l:List SL} {r q:Nat} {bs:List Nat} {B:List (Nat × Obj)}
theorem Vt {x:kS} (h:In w0 w (mV r (ja x++bs)::pts q (iZ r)::l)) (hok:zM B x):
 aW 166 #[q] w w0 (.agg #[.int .i64 x.aI,.int .i64 x.cap]) (mV r bs::pts q (iZ r)::l):=by
 rcases x with⟨aI,cap⟩
 unfold zM at hok
 simp only at hok
 obtain⟨p_0,p_1⟩:=hok
 obtain⟨zU,rfl⟩:=jE (x:=aI) (by omega)
 obtain⟨zT,rfl⟩:=jE (x:=cap) (by omega)
 have e:ja ⟨zU,zT⟩++bs=zU::(le zT 2++bs):=by simp[ja,uK,ik,puts]
 rw[e]at h
 exact Zh h (by omega) (by omega)
theorem ZY {xs:List kS} (h:In w0 w (mV r ((xs.map ja).flatten++bs)::pts q (iZ r)::l)) (hok:∀x∈xs,zM B x) (hn:xs.length≤256):
 Calls prog 165 #[.int .i64 xs.length,.func (.func 166) #[] #[q]] w fun e w'=>∃u,e= .returned u∧In w0 w' (Row 54 2 u xs.length (xs.map iR).flatten::mV r bs::pts q (iZ r)::l):=by
 go_enter func165,ntmps165
 go_upto_region 3 with(fail)
 go_loopw [5,7] (fun v c wr=>∃k:Nat,k≤xs.length∧c= .int .i64 k∧In w0 wr (Row 54 2 v k ((xs.take k).map iR).flatten::mV r (((xs.drop k).map ja).flatten++bs)::pts q (iZ r)::l))
  (fun _ c _=>xs.length-(intOf c).toNat)
 case atStart=>exact⟨0,Nat.zero_le _,rfl,by simpa using h.dh 54 2⟩
 case round=>
  obtain⟨k,hk,rfl,hw⟩:=hrel
  clear h
  by_cases hlt:k<xs.length
  ·have hxo:=hok _ (List.getElem_mem hlt)
   rw[qy hlt]at hw
   have hst:((xs.take (k+1)).map iR).flatten=((xs.take k).map iR).flatten++iR xs[k]:=by
    rw[List.take_succ_eq_append_getElem hlt,List.map_append,List.flatten_append]
    simp
   generalize xs[k]=x at*
   obtain⟨av,cv,rfl⟩:=hw.aG
   have hw2:=hw.pr [1,1,0]
   have hp:=Vt hw2 hxo
   clear hw2
   rcases x with⟨aI,cap⟩
   simp only at hp
   have n1:(k:Int)<xs.length:=by omega
   go_wp2_with (first|(go_at_call 166;refine bF hp ?_;intro w5 h5)|(with_reducible apply bH))
   unfold Stop
   have h6:=h5.pr [2,0,0]
   clear hp h5 hw
   refine aZ O9 (h6.alloc (Ik aI cap)) (by rfl) (by rfl) (by rfl) (by simp[Value.oneCell']) (by omega) ?_
   intro u7 w7 h7
   obtain⟨a7,c7,rfl⟩:=h7.aG
   go_wp2_with fail
   go_roundw
   case rel=>exact⟨k+1,hlt,by go_num,by rw[hst];exact h7⟩
   case measure=>simp[intOf]<;>omega
  ·have hke:k=xs.length:=by omega
   subst hke
   rw[List.take_length,List.drop_length]at hw
   obtain⟨av,cv,rfl⟩:=hw.aG
   go_wp2_with fail
   go_ret
   exact⟨.slice av xs.length cv,rfl,hw⟩
theorem Y2 {x:IA} (h:In w0 w (mV r (jU x++bs)::pts q (iZ r)::l)) (hok:AX B x):
 aW 168 #[q] w w0 (.agg #[.bool x.internal,.int .i64 x.gJ]) (mV r bs::pts q (iZ r)::l):=by
 rcases x with⟨int,ceil⟩
 unfold AX at hok
 simp only at hok
 have p_0:=hok
 obtain⟨X6,rfl⟩:=QN (x:=ceil) (by omega)
 have e:jU ⟨int,(X6:Int)-1⟩++bs=mQ int::X6::bs:=by simp[jU,wX]
 rw[e]at h
 exact abP h (by omega)
theorem abp {xs:List IA} (h:In w0 w (mV r ((xs.map jU).flatten++bs)::pts q (iZ r)::l)) (hok:∀x∈xs,AX B x) (hn:xs.length≤256):
 Calls prog 167 #[.int .i64 xs.length,.func (.func 168) #[] #[q]] w fun e w'=>∃u,e= .returned u∧In w0 w' (Row 145 2 u xs.length (xs.map kw).flatten::mV r bs::pts q (iZ r)::l):=by
 go_enter func167,ntmps167
 go_upto_region 3 with(fail)
 go_loopw [5,7] (fun v c wr=>∃k:Nat,k≤xs.length∧c= .int .i64 k∧In w0 wr (Row 145 2 v k ((xs.take k).map kw).flatten::mV r (((xs.drop k).map jU).flatten++bs)::pts q (iZ r)::l))
  (fun _ c _=>xs.length-(intOf c).toNat)
 case atStart=>exact⟨0,Nat.zero_le _,rfl,by simpa using h.dh 145 2⟩
 case round=>
  obtain⟨k,hk,rfl,hw⟩:=hrel
  clear h
  by_cases hlt:k<xs.length
  ·have hxo:=hok _ (List.getElem_mem hlt)
   rw[qy hlt]at hw
   have hst:((xs.take (k+1)).map kw).flatten=((xs.take k).map kw).flatten++kw xs[k]:=by
    rw[List.take_succ_eq_append_getElem hlt,List.map_append,List.flatten_append]
    simp
   generalize xs[k]=x at*
   obtain⟨av,cv,rfl⟩:=hw.aG
   have hw2:=hw.pr [1,1,0]
   have hp:=Y2 hw2 hxo
   clear hw2
   rcases x with⟨int,ceil⟩
   simp only at hp
   have n1:(k:Int)<xs.length:=by omega
   go_wp2_with (first|(go_at_call 168;refine bF hp ?_;intro w5 h5)|(with_reducible apply bH))
   unfold Stop
   have h6:=h5.pr [2,0,0]
   clear hp h5 hw
   refine aZ aaD (h6.alloc (L6 int ceil)) (by rfl) (by rfl) (by rfl) (by simp[Value.oneCell']) (by omega) ?_
   intro u7 w7 h7
   obtain⟨a7,c7,rfl⟩:=h7.aG
   go_wp2_with fail
   go_roundw
   case rel=>exact⟨k+1,hlt,by go_num,by rw[hst];exact h7⟩
   case measure=>simp[intOf]<;>omega
  ·have hke:k=xs.length:=by omega
   subst hke
   rw[List.take_length,List.drop_length]at hw
   obtain⟨av,cv,rfl⟩:=hw.aG
   go_wp2_with fail
   go_ret
   exact⟨.slice av xs.length cv,rfl,hw⟩
theorem Yq {x:xm} (h:In w0 w (mV r (jF x++bs)::pts q (iZ r)::l)) (hok:FK B x):
 aW 171 #[q] w w0 (.agg #[.int .u32 x.max,.int .u32 x.base,.int .u32 x.min]) (mV r bs::pts q (iZ r)::l):=by
 rcases x with⟨mx,base,mn⟩
 unfold FK at hok
 simp only at hok
 obtain⟨p_0,p_1,p_2⟩:=hok
 obtain⟨Hy,rfl⟩:=jE (x:=mx) (by omega)
 obtain⟨vK,rfl⟩:=jE (x:=base) (by omega)
 obtain⟨Hz,rfl⟩:=jE (x:=mn) (by omega)
 have e:jF ⟨Hy,vK,Hz⟩++bs=le Hy 4++(le vK 4++(le Hz 4++bs)):=by simp[jF,xe,ik,puts]
 rw[e]at h
 exact abn h (by omega) (by omega) (by omega)
theorem ach {xs:List xm} (h:In w0 w (mV r ((xs.map jF).flatten++bs)::pts q (iZ r)::l)) (hok:∀x∈xs,FK B x) (hn:xs.length≤256):
 Calls prog 170 #[.int .i64 xs.length,.func (.func 171) #[] #[q]] w fun e w'=>∃u,e= .returned u∧In w0 w' (Row 263 3 u xs.length (xs.map iU).flatten::mV r bs::pts q (iZ r)::l):=by
 go_enter func170,ntmps170
 go_upto_region 3 with(fail)
 go_loopw [5,7] (fun v c wr=>∃k:Nat,k≤xs.length∧c= .int .i64 k∧In w0 wr (Row 263 3 v k ((xs.take k).map iU).flatten::mV r (((xs.drop k).map jF).flatten++bs)::pts q (iZ r)::l))
  (fun _ c _=>xs.length-(intOf c).toNat)
 case atStart=>exact⟨0,Nat.zero_le _,rfl,by simpa using h.dh 263 3⟩
 case round=>
  obtain⟨k,hk,rfl,hw⟩:=hrel
  clear h
  by_cases hlt:k<xs.length
  ·have hxo:=hok _ (List.getElem_mem hlt)
   rw[qy hlt]at hw
   have hst:((xs.take (k+1)).map iU).flatten=((xs.take k).map iU).flatten++iU xs[k]:=by
    rw[List.take_succ_eq_append_getElem hlt,List.map_append,List.flatten_append]
    simp
   generalize xs[k]=x at*
   obtain⟨av,cv,rfl⟩:=hw.aG
   have hw2:=hw.pr [1,1,0]
   have hp:=Yq hw2 hxo
   clear hw2
   rcases x with⟨mx,base,mn⟩
   simp only at hp
   have n1:(k:Int)<xs.length:=by omega
   go_wp2_with (first|(go_at_call 171;refine bF hp ?_;intro w5 h5)|(with_reducible apply bH))
   unfold Stop
   have h6:=h5.pr [2,0,0]
   clear hp h5 hw
   refine aZ WI (h6.alloc (Il mx base mn)) (by rfl) (by rfl) (by rfl) (by simp[Value.oneCell']) (by omega) ?_
   intro u7 w7 h7
   obtain⟨a7,c7,rfl⟩:=h7.aG
   go_wp2_with fail
   go_roundw
   case rel=>exact⟨k+1,hlt,by go_num,by rw[hst];exact h7⟩
   case measure=>simp[intOf]<;>omega
  ·have hke:k=xs.length:=by omega
   subst hke
   rw[List.take_length,List.drop_length]at hw
   obtain⟨av,cv,rfl⟩:=hw.aG
   go_wp2_with fail
   go_ret
   exact⟨.slice av xs.length cv,rfl,hw⟩
theorem Ut {x:gq} (h:In w0 w (mV r (gW x++bs)::pts q (iZ r)::l)) (hok:kX B x):
 aW 173 #[q] w w0 (.agg #[.int .i64 x.counter,.int .i64 x.act.kind,.int .i64 x.act.lL,.int .u32 x.act.mask,.int .u32 x.dX,.int .u32 x.time,.int .u32 x.cycle]) (mV r bs::pts q (iZ r)::l):=by
 rcases x with⟨cn,⟨kd,tk,mk⟩,dX,time,cycle⟩
 unfold kX at hok
 simp only at hok
 obtain⟨p_0,p_1,p_2,p_3,p_4,p_5,p_6⟩:=hok
 obtain⟨adw,rfl⟩:=jE (x:=cn) (by omega)
 obtain⟨X7,rfl⟩:=jE (x:=kd) (by omega)
 obtain⟨X8,rfl⟩:=jE (x:=tk) (by omega)
 obtain⟨vM,rfl⟩:=jE (x:=mk) (by omega)
 obtain⟨kU,rfl⟩:=jE (x:=dX) (by omega)
 obtain⟨vN,rfl⟩:=jE (x:=time) (by omega)
 obtain⟨rD,rfl⟩:=jE (x:=cycle) (by omega)
 have e:gW ⟨adw,⟨X7,X8,vM⟩,kU,vN,rD⟩++bs=adw::X7::X8::(le vM 4++(le kU 1++(le vN 4++(le rD 4++bs)))):=by simp[gW,rV,dW,ik,puts]
 rw[e]at h
 exact Xp h (by omega) (by omega) (by omega) (by omega) (by omega) (by omega) (by omega)
theorem Xa {xs:List gq} (h:In w0 w (mV r ((xs.map gW).flatten++bs)::pts q (iZ r)::l)) (hok:∀x∈xs,kX B x) (hn:xs.length≤256):
 Calls prog 172 #[.int .i64 xs.length,.func (.func 173) #[] #[q]] w fun e w'=>∃u,e= .returned u∧In w0 w' (Row 206 7 u xs.length (xs.map dR).flatten::mV r bs::pts q (iZ r)::l):=by
 go_enter func172,ntmps172
 go_upto_region 3 with(fail)
 go_loopw [5,7] (fun v c wr=>∃k:Nat,k≤xs.length∧c= .int .i64 k∧In w0 wr (Row 206 7 v k ((xs.take k).map dR).flatten::mV r (((xs.drop k).map gW).flatten++bs)::pts q (iZ r)::l))
  (fun _ c _=>xs.length-(intOf c).toNat)
 case atStart=>exact⟨0,Nat.zero_le _,rfl,by simpa using h.dh 206 7⟩
 case round=>
  obtain⟨k,hk,rfl,hw⟩:=hrel
  clear h
  by_cases hlt:k<xs.length
  ·have hxo:=hok _ (List.getElem_mem hlt)
   rw[qy hlt]at hw
   have hst:((xs.take (k+1)).map dR).flatten=((xs.take k).map dR).flatten++dR xs[k]:=by
    rw[List.take_succ_eq_append_getElem hlt,List.map_append,List.flatten_append]
    simp
   generalize xs[k]=x at*
   obtain⟨av,cv,rfl⟩:=hw.aG
   have hw2:=hw.pr [1,1,0]
   have hp:=Ut hw2 hxo
   clear hw2
   rcases x with⟨cn,⟨kd,tk,mk⟩,dX,time,cycle⟩
   simp only at hp
   have n1:(k:Int)<xs.length:=by omega
   go_wp2_with (first|(go_at_call 173;refine bF hp ?_;intro w5 h5)|(with_reducible apply bH))
   unfold Stop
   have h6:=h5.pr [2,0,0]
   clear hp h5 hw
   refine aZ KG (h6.alloc (OH cn kd tk mk dX time cycle)) (by rfl) (by rfl) (by rfl) (by simp[Value.oneCell']) (by omega) ?_
   intro u7 w7 h7
   obtain⟨a7,c7,rfl⟩:=h7.aG
   go_wp2_with fail
   go_roundw
   case rel=>exact⟨k+1,hlt,by go_num,by rw[hst];exact h7⟩
   case measure=>simp[intOf]<;>omega
  ·have hke:k=xs.length:=by omega
   subst hke
   rw[List.take_length,List.drop_length]at hw
   obtain⟨av,cv,rfl⟩:=hw.aG
   go_wp2_with fail
   go_ret
   exact⟨.slice av xs.length cv,rfl,hw⟩
theorem Yv {x:qF} (h:In w0 w (mV r (jV x++bs)::pts q (iZ r)::l)) (hok:rO B x):
 aW 179 #[q] w w0 (.agg #[.int .i64 x.kind,.int .i64 x.length,.int .i64 x.src,.int .u64 x.init,.int .i64 x.queue,.int .i64 x.act.kind,.int .i64 x.act.lL,.int .u32 x.act.mask]) (mV r bs::pts q (iZ r)::l):=by
 rcases x with⟨kind,len,src,init,queue,⟨kd,tk,mk⟩⟩
 unfold rO at hok
 simp only at hok
 obtain⟨p_0,p_1,p_2,p_3,p_4,p_5,p_6,p_7⟩:=hok
 obtain⟨X9,rfl⟩:=jE (x:=kind) (by omega)
 obtain⟨aaO,rfl⟩:=jE (x:=len) (by omega)
 obtain⟨aaP,rfl⟩:=jE (x:=src) (by omega)
 obtain⟨vO,rfl⟩:=jE (x:=init) (by omega)
 obtain⟨RJ,rfl⟩:=jE (x:=queue) (by omega)
 obtain⟨X7,rfl⟩:=jE (x:=kd) (by omega)
 obtain⟨X8,rfl⟩:=jE (x:=tk) (by omega)
 obtain⟨vM,rfl⟩:=jE (x:=mk) (by omega)
 have e:jV ⟨X9,aaO,aaP,vO,RJ,⟨X7,X8,vM⟩⟩++bs=X9::aaO::aaP::(le vO 8++(RJ::X7::X8::(le vM 4++bs))):=by simp[jV,xG,dW,ik,puts]
 rw[e]at h
 exact aa5 h (by omega) (by omega) (by omega) (by omega) (by omega) (by omega) (by omega) (by omega)
theorem aa7 {xs:List qF} (h:In w0 w (mV r ((xs.map jV).flatten++bs)::pts q (iZ r)::l)) (hok:∀x∈xs,rO B x) (hn:xs.length≤256):
 Calls prog 178 #[.int .i64 xs.length,.func (.func 179) #[] #[q]] w fun e w'=>∃u,e= .returned u∧In w0 w' (Row 268 8 u xs.length (xs.map mJ).flatten::mV r bs::pts q (iZ r)::l):=by
 go_enter func178,ntmps178
 go_upto_region 3 with(fail)
 go_loopw [5,7] (fun v c wr=>∃k:Nat,k≤xs.length∧c= .int .i64 k∧In w0 wr (Row 268 8 v k ((xs.take k).map mJ).flatten::mV r (((xs.drop k).map jV).flatten++bs)::pts q (iZ r)::l))
  (fun _ c _=>xs.length-(intOf c).toNat)
 case atStart=>exact⟨0,Nat.zero_le _,rfl,by simpa using h.dh 268 8⟩
 case round=>
  obtain⟨k,hk,rfl,hw⟩:=hrel
  clear h
  by_cases hlt:k<xs.length
  ·have hxo:=hok _ (List.getElem_mem hlt)
   rw[qy hlt]at hw
   have hst:((xs.take (k+1)).map mJ).flatten=((xs.take k).map mJ).flatten++mJ xs[k]:=by
    rw[List.take_succ_eq_append_getElem hlt,List.map_append,List.flatten_append]
    simp
   generalize xs[k]=x at*
   obtain⟨av,cv,rfl⟩:=hw.aG
   have hw2:=hw.pr [1,1,0]
   have hp:=Yv hw2 hxo
   clear hw2
   rcases x with⟨kind,len,src,init,queue,⟨kd,tk,mk⟩⟩
   simp only at hp
   have n1:(k:Int)<xs.length:=by omega
   go_wp2_with (first|(go_at_call 179;refine bF hp ?_;intro w5 h5)|(with_reducible apply bH))
   unfold Stop
   have h6:=h5.pr [2,0,0]
   clear hp h5 hw
   refine aZ aaw (h6.alloc (Nv kind len src init queue kd tk mk)) (by rfl) (by rfl) (by rfl) (by simp[Value.oneCell']) (by omega) ?_
   intro u7 w7 h7
   obtain⟨a7,c7,rfl⟩:=h7.aG
   go_wp2_with fail
   go_roundw
   case rel=>exact⟨k+1,hlt,by go_num,by rw[hst];exact h7⟩
   case measure=>simp[intOf]<;>omega
  ·have hke:k=xs.length:=by omega
   subst hke
   rw[List.take_length,List.drop_length]at hw
   obtain⟨av,cv,rfl⟩:=hw.aG
   go_wp2_with fail
   go_ret
   exact⟨.slice av xs.length cv,rfl,hw⟩
theorem Sj {xs:List Nat} (h:In w0 w (mV r (puts xs 2++bs)::pts q (iZ r)::l)) (hok:∀x∈xs,x<65536) (hn:xs.length≤256):
 Calls prog 160 #[.int .i64 xs.length,.func (.func 161) #[] #[q]] w fun e w'=>∃u,e= .returned u∧In w0 w' (Row 3 1 u xs.length (uh xs)::mV r bs::pts q (iZ r)::l):=by
 go_enter func160,ntmps160
 go_upto_region 3 with(fail)
 go_loopw [5,7] (fun v c wr=>∃k:Nat,k≤xs.length∧c= .int .i64 k∧In w0 wr (Row 3 1 v k (uh (xs.take k))::mV r (((xs.drop k).map fun x=>le x 2).flatten++bs)::pts q (iZ r)::l))
  (fun _ c _=>xs.length-(intOf c).toNat)
 case atStart=>exact⟨0,Nat.zero_le _,rfl,by simpa[uh,puts]using h.dh 3 1⟩
 case round=>
  obtain⟨k,hk,rfl,hw⟩:=hrel
  clear h
  by_cases hlt:k<xs.length
  ·have hxo:=hok _ (List.getElem_mem hlt)
   rw[qy (f:=fun x=>le x 2) hlt]at hw
   have hst:uh (xs.take (k+1))=uh (xs.take k)++ [.int .i64 (xs[k]:Nat)]:=by unfold uh;rw[List.take_succ_eq_append_getElem hlt,List.map_append];rfl
   generalize xs[k]=x at*
   obtain⟨av,cv,rfl⟩:=hw.aG
   have hw2:=hw.pr [1,1,0]
   have hp:=Wv hw2 hxo
   clear hw2
   have n1:(k:Int)<xs.length:=by omega
   go_wp2_with (first|(go_at_call 161;refine bF hp ?_;intro w5 h5)|(with_reducible apply bH))
   unfold Stop
   have h6:=h5.pr [2,0,0]
   clear hp h5 hw
   refine aZ Es (h6.alloc (wC x)) (by rfl) (by rfl) (by rfl) (by simp[Value.oneCell']) (by omega) ?_
   intro u7 w7 h7
   obtain⟨a7,c7,rfl⟩:=h7.aG
   go_wp2_with fail
   go_roundw
   case rel=>exact⟨k+1,hlt,by go_num,by rw[hst];exact h7⟩
   case measure=>simp[intOf]<;>omega
  ·have hke:k=xs.length:=by omega
   subst hke
   rw[List.take_length,List.drop_length]at hw
   obtain⟨av,cv,rfl⟩:=hw.aG
   go_wp2_with fail
   go_ret
   exact⟨.slice av xs.length cv,rfl,hw⟩
def x8 (k:dn):Prop:=(0≤k.aI∧k.aI≤255)∧(0≤k.ring∧k.ring≤255)∧(0≤k.limit∧k.limit≤255)∧(0≤k.mask∧k.mask<4294967296)∧(-1≤k.internal∧k.internal≤254)∧(∀y∈k.own,0≤y∧y≤255)∧(k.own.length≤255)∧(0≤k.dX∧k.dX<256)
def Bh (k:kG):Prop:=(0≤k.category∧k.category≤255)∧(0≤k.aI∧k.aI≤255)∧(∀y∈k.own,0≤y∧y≤255)∧(k.own.length≤255)
theorem UM {x:dn} (h:In w0 w (mV r (uZ x++bs)::l)) (hok:x8 x):
 Calls prog 164 #[.agg #[r]] w fun e w'=>∃u,e= .returned (.agg #[.int .i64 x.aI,.int .i64 x.ring,.bool x.full,.int .i64 x.limit,.int .u32 x.mask,.int .i64 x.internal,u,.int .u32 x.dX])∧In w0 w' (Row 3 1 u x.own.length (ints x.own)::mV r bs::l):=by
 rcases x with⟨aI,ring,full,limit,mask,internal,own,dX⟩
 unfold x8 at hok
 simp only at hok
 obtain⟨p_0,p_1,p_2,p_3,p_4,p_5,p_6,p_7⟩:=hok
 obtain⟨zU,rfl⟩:=jE (x:=aI) (by omega)
 obtain⟨Ya,rfl⟩:=jE (x:=ring) (by omega)
 obtain⟨RN,rfl⟩:=jE (x:=limit) (by omega)
 obtain⟨vJ,rfl⟩:=jE (x:=mask) (by omega)
 obtain⟨kU,rfl⟩:=jE (x:=dX) (by omega)
 obtain⟨aaQ,rfl⟩:=QN (x:=internal) (by omega)
 obtain⟨HY,rfl,hown⟩:=JU p_5
 rw[List.length_map]at p_6
 have e:uZ ⟨zU,Ya,full,RN,vJ,(aaQ:Int)-1,HY.map fun(n:Nat)=>(n:Int),kU⟩++bs=zU::Ya::mQ full::RN::(le vJ 4++(aaQ::HY.length::(HY++(le kU 1++bs)))):=by
  unfold uZ iV rX
  simp only[Jr]
  simp[ik,puts]
 rw[e]at h
 simp only[List.length_map,IL]
 exact Yu h (by omega) (by omega) (by omega) (by omega) (by omega) hown (by omega) (by omega)
theorem YD {x:kG} (h:In w0 w (mV r (x9 x++bs)::pts q (iZ r)::l)) (hok:Bh x):
 Calls prog 176 #[q] w fun e w'=>∃u,e= .returned (.agg #[.int .i64 x.category,.int .i64 x.aI,u])∧In w0 w' (Row 3 1 u x.own.length (ints x.own)::mV r bs::pts q (iZ r)::l):=by
 rcases x with⟨cat,aI,own⟩
 unfold Bh at hok
 simp only at hok
 obtain⟨p_0,p_1,p_5,p_6⟩:=hok
 obtain⟨aaR,rfl⟩:=jE (x:=cat) (by omega)
 obtain⟨zU,rfl⟩:=jE (x:=aI) (by omega)
 obtain⟨HY,rfl,hown⟩:=JU p_5
 rw[List.length_map]at p_6
 have e:x9 ⟨aaR,zU,HY.map fun(n:Nat)=>(n:Int)⟩++bs=aaR::zU::HY.length::(HY++bs):=by
  unfold x9 lq xq
  simp only[Jr]
  simp[ik]
 rw[e]at h
 simp only[List.length_map,IL]
 exact abX h (by omega) (by omega) hown (by omega)
theorem ZE {xs:List dn} (h:In w0 w (mV r ((xs.map uZ).flatten++bs)::l)) (hok:∀x∈xs,x8 x) (hn:xs.length≤256):
 Calls prog 163 #[.int .i64 xs.length,.func (.func 164) #[.agg #[r]] #[]] w fun e w'=>∃u,e= .returned u∧∃C,∃tl:List (dn × Value),tl.map (·.1)=xs∧(∀p∈tl,dQ C p.2 p.1.own.length (ints p.1.own))∧In w0 w' (Row 52 8 u xs.length (tl.map dM).flatten::bJ C::mV r bs::l):=by
 go_enter func163,ntmps163
 go_upto_region 3 with(fail)
 go_loopw [5,7] (fun v c wr=>∃k:Nat,k≤xs.length∧c= .int .i64 k∧∃C,∃tl:List (dn × Value),tl.map (·.1)=xs.take k∧(∀p∈tl,dQ C p.2 p.1.own.length (ints p.1.own))∧In w0 wr (Row 52 8 v k (tl.map dM).flatten::bJ C::mV r (((xs.drop k).map uZ).flatten++bs)::l))
  (fun _ c _=>xs.length-(intOf c).toNat)
 case atStart=>exact⟨0,Nat.zero_le _,rfl, [], [],rfl,by simp,(In.sW h).dh 52 8⟩
 case round=>
  obtain⟨k,hk,rfl,C,tl,htl,hro,hw⟩:=hrel
  clear h
  by_cases hlt:k<xs.length
  ·have hxo:=hok _ (List.getElem_mem hlt)
   rw[qy hlt]at hw
   have hst:∀y:dn × Value,y.1=xs[k]→(tl++ [y]).map (·.1)=xs.take (k+1):=by
    intro y hy
    rw[List.map_append,htl,List.take_succ_eq_append_getElem hlt,←hy]
    rfl
   generalize xs[k]=x at*
   obtain⟨av,cv,rfl⟩:=hw.aG
   have hw2:=hw.pr [2,0,0]
   have hp:=UM hw2 hxo
   clear hw2 htl
   rcases x with⟨aI,ring,full,limit,mask,internal,own,dX⟩
   simp only at hp
   have n1:(k:Int)<xs.length:=by omega
   go_wp2_with (first|(go_at_call 164;refine Calls.mono hp ?_;rintro _ w5 ⟨u,rfl,h5⟩;obtain⟨ao,co,rfl⟩:=h5.aG)|(with_reducible apply bH))
   unfold Stop
   have h5b:=h5.pr [0,2,0,0]
   obtain⟨D,hCD,hD,h5c⟩:=h5b.dY
   have h6:=h5c.pr [2,0,0]
   clear hp h5 h5b h5c hw
   refine aZ WA (h6.alloc (BB aI ring full limit mask internal (.slice ao own.length co) dX)) (by rfl) (by rfl) (by rfl) (by simp[Value.oneCell']) (by omega) ?_
   intro u7 w7 h7
   obtain⟨a7,c7,rfl⟩:=h7.aG
   go_wp2_with fail
   go_roundw
   case rel=>
    refine⟨k+1,hlt,by go_num,D,tl++ [(⟨aI,ring,full,limit,mask,internal,own,dX⟩,.slice ao own.length co)],hst _ rfl,?_,?_⟩
    ·intro p hp
     rcases List.mem_append.1 hp with hp|hp
     ·exact(hro p hp).mono hCD
     ·rw[List.mem_singleton]at hp;subst hp;exact hD
    ·have e:((tl++ [((⟨aI,ring,full,limit,mask,internal,own,dX⟩,Value.slice ao own.length co):dn × Value)]).map dM).flatten=(tl.map dM).flatten++ [.int .i64 aI,.int .i64 ring,.bool full,.int .i64 limit,.int .u32 mask,.int .i64 internal,.slice ao own.length co,.int .u32 dX]:=by rw[List.map_append,List.flatten_append];simp[dM]
     rw[e]
     exact h7
   case measure=>simp[intOf]<;>omega
  ·have hke:k=xs.length:=by omega
   subst hke
   rw[List.take_length]at htl
   rw[List.drop_length]at hw
   obtain⟨av,cv,rfl⟩:=hw.aG
   go_wp2_with fail
   go_ret
   exact⟨.slice av xs.length cv,rfl,C,tl,htl,hro,hw⟩
theorem abG {xs:List kG} (h:In w0 w (mV r ((xs.map x9).flatten++bs)::pts q (iZ r)::l)) (hok:∀x∈xs,Bh x) (hn:xs.length≤256):
 Calls prog 175 #[.int .i64 xs.length,.func (.func 176) #[] #[q]] w fun e w'=>∃u,e= .returned u∧∃C,∃tl:List (kG × Value),tl.map (·.1)=xs∧(∀p∈tl,dQ C p.2 p.1.own.length (ints p.1.own))∧In w0 w' (Row 123 3 u xs.length (tl.map iy).flatten::bJ C::mV r bs::pts q (iZ r)::l):=by
 go_enter func175,ntmps175
 go_upto_region 3 with(fail)
 go_loopw [5,7] (fun v c wr=>∃k:Nat,k≤xs.length∧c= .int .i64 k∧∃C,∃tl:List (kG × Value),tl.map (·.1)=xs.take k∧(∀p∈tl,dQ C p.2 p.1.own.length (ints p.1.own))∧In w0 wr (Row 123 3 v k (tl.map iy).flatten::bJ C::mV r (((xs.drop k).map x9).flatten++bs)::pts q (iZ r)::l))
  (fun _ c _=>xs.length-(intOf c).toNat)
 case atStart=>exact⟨0,Nat.zero_le _,rfl, [], [],rfl,by simp,(In.sW h).dh 123 3⟩
 case round=>
  obtain⟨k,hk,rfl,C,tl,htl,hro,hw⟩:=hrel
  clear h
  by_cases hlt:k<xs.length
  ·have hxo:=hok _ (List.getElem_mem hlt)
   rw[qy hlt]at hw
   have hst:∀y:kG × Value,y.1=xs[k]→(tl++ [y]).map (·.1)=xs.take (k+1):=by
    intro y hy
    rw[List.map_append,htl,List.take_succ_eq_append_getElem hlt,←hy]
    rfl
   generalize xs[k]=x at*
   obtain⟨av,cv,rfl⟩:=hw.aG
   have hw2:=hw.pr [2,2,0,0]
   have hp:=YD hw2 hxo
   clear hw2 htl
   rcases x with⟨cat,aI,own⟩
   simp only at hp
   have n1:(k:Int)<xs.length:=by omega
   go_wp2_with (first|(go_at_call 176;refine Calls.mono hp ?_;rintro _ w5 ⟨u,rfl,h5⟩;obtain⟨ao,co,rfl⟩:=h5.aG)|(with_reducible apply bH))
   unfold Stop
   have h5b:=h5.pr [0,3,0,0,0]
   obtain⟨D,hCD,hD,h5c⟩:=h5b.dY
   have h6:=h5c.pr [3,0,0,0]
   clear hp h5 h5b h5c hw
   refine aZ aaB (h6.alloc (Ic cat aI (.slice ao own.length co))) (by rfl) (by rfl) (by rfl) (by simp[Value.oneCell']) (by omega) ?_
   intro u7 w7 h7
   obtain⟨a7,c7,rfl⟩:=h7.aG
   go_wp2_with fail
   go_roundw
   case rel=>
    refine⟨k+1,hlt,by go_num,D,tl++ [(⟨cat,aI,own⟩,.slice ao own.length co)],hst _ rfl,?_,?_⟩
    ·intro p hp
     rcases List.mem_append.1 hp with hp|hp
     ·exact(hro p hp).mono hCD
     ·rw[List.mem_singleton]at hp;subst hp;exact hD
    ·have e:((tl++ [((⟨cat,aI,own⟩,Value.slice ao own.length co):kG × Value)]).map iy).flatten=(tl.map iy).flatten++ [.int .i64 cat,.int .i64 aI,.slice ao own.length co]:=by rw[List.map_append,List.flatten_append];simp[iy]
     rw[e]
     exact h7
   case measure=>simp[intOf]<;>omega
  ·have hke:k=xs.length:=by omega
   subst hke
   rw[List.take_length]at htl
   rw[List.drop_length]at hw
   obtain⟨av,cv,rfl⟩:=hw.aG
   go_wp2_with fail
   go_ret
   exact⟨.slice av xs.length cv,rfl,C,tl,htl,hro,hw⟩
end
section
variable {w0 w:World} {l:List SL} {r:Nat} {T:ah} {s:az}
theorem Ou (h:In w0 w (Core r T s::l)):aW 307 #[r] w w0 (.tuple #[]) (Core r T T.mP::l):=by
 have hmd:=jZ h
 obtain⟨B,x,a,h1⟩:=dE h
 have hck:Gf (.agg (uB T x).toArray) B:=fun h=>checks a.tab a.chk h
 have h2:=h1.pr [0,0] 5
 have hla:=W9 (x:=x) h2 rfl a.tab a.chk hck
 have bC:∀off,w.cell? ⟨r,off,none⟩=(#[x.vt,x.vr,fJ x.pl,fJ x.pt,fJ x.pq,fJ x.pb,fJ x.pe,.int .i64 s.leaving,.int .u32 s.wants,.int .i64 T.uses,.int .i64 T.modes,x.vt,x.vr,x.vs,x.vc,x.va,x.vi,x.vm,.int .i64 T.depth,.int .i64 T.frames,.int .i64 T.errors,.int .i64 T.dU]:Array Value)[off]? :=h1.cells
 clear h2 h1 h hck
 unfold uB at hla
 go_enter func307,ntmps307
 go_wp2_with (first|(go_at_call 108;refine bW hmd ?_)|(go_at_call 181;refine bF hla ?_;intro w4 h4))
 go_end0
 exact⟨rfl,h4.s⟩
end
def KC:List ByteArray:=[⟨#[83,116,97,114,116,79,83]⟩,⟨#[83,104,117,116,100,111,119,110,79,83]⟩,⟨#[71,101,116,65,99,116,105,118,101,65,112,112,108,105,99,97,116,105,111,110,77,111,100,101]⟩,⟨#[65,99,116,105,118,97,116,101,84,97,115,107]⟩,⟨#[84,101,114,109,105,110,97,116,101,84,97,115,107]⟩,⟨#[67,104,97,105,110,84,97,115,107]⟩,⟨#[83,99,104,101,100,117,108,101]⟩,⟨#[71,101,116,84,97,115,107,73,68]⟩,⟨#[71,101,116,84,97,115,107,83,116,97,116,101]⟩,⟨#[69,110,97,98,108,101,65,108,108,73,110,116,101,114,114,117,112,116,115]⟩,⟨#[68,105,115,97,98,108,101,65,108,108,73,110,116,101,114,114,117,112,116,115]⟩,⟨#[82,101,115,117,109,101,65,108,108,73,110,116,101,114,114,117,112,116,115]⟩,⟨#[83,117,115,112,101,110,100,65,108,108,73,110,116,101,114,114,117,112,116,115]⟩,⟨#[82,101,115,117,109,101,79,83,73,110,116,101,114,114,117,112,116,115]⟩,⟨#[83,117,115,112,101,110,100,79,83,73,110,116,101,114,114,117,112,116,115]⟩,⟨#[71,101,116,82,101,115,111,117,114,99,101]⟩,⟨#[82,101,108,101,97,115,101,82,101,115,111,117,114,99,101]⟩,⟨#[83,101,116,69,118,101,110,116]⟩,⟨#[67,108,101,97,114,69,118,101,110,116]⟩,⟨#[71,101,116,69,118,101,110,116]⟩,⟨#[87,97,105,116,69,118,101,110,116]⟩,⟨#[71,101,116,65,108,97,114,109,66,97,115,101]⟩,⟨#[71,101,116,65,108,97,114,109]⟩,⟨#[83,101,116,82,101,108,65,108,97,114,109]⟩,⟨#[83,101,116,65,98,115,65,108,97,114,109]⟩,⟨#[67,97,110,99,101,108,65,108,97,114,109]⟩,⟨#[83,101,110,100,77,101,115,115,97,103,101]⟩,⟨#[82,101,99,101,105,118,101,77,101,115,115,97,103,101]⟩,⟨#[71,101,116,77,101,115,115,97,103,101,83,116,97,116,117,115]⟩,⟨#[73,110,105,116,77,101,115,115,97,103,101]⟩,⟨#[82,101,97,100,70,108,97,103]⟩,⟨#[82,101,115,101,116,70,108,97,103]⟩]
def XN (r:Int × Int × Int) (s:ByteArray):List Value:=[.int .i64 r.1,.string s,.int .i64 r.2.1,.int .i64 r.2.2]
def zG:List (List Value):=List.zipWith XN Bl KC
theorem wB:∀x∈zG,x.length=4:=by
 intro x hx
 obtain⟨i,hi⟩:=List.getElem?_of_mem hx
 unfold zG at hi
 rw[List.getElem?_zipWith]at hi
 split at hi
 ·cases hi;rfl
 ·cases hi
theorem Qn {k:Nat} {r:Int × Int × Int} (h:Bl[k]? =some r):∃s,zG[k]? =some (XN r s):=by
 have hk:=(List.getElem?_eq_some_iff.1 h).1
 have hk2:k<KC.length:=hk
 refine⟨KC[k],?_⟩
 unfold zG
 rw[List.getElem?_zipWith,h,List.getElem?_eq_getElem hk2]
section
variable {w0 w:World} {l:List SL}
theorem Oa (h:In w0 w l):Calls prog 330 #[] w fun e w'=>∃g,e= .returned (.slice (some ⟨g,0,none⟩) 32 32)∧In w0 w' (Row 332 4 (.slice (some ⟨g,0,none⟩) 32 32) 32 zG.flatten::l):=by
 have h1:=h.alloc (.cells zG.flatten.toArray 332)
 go_enter func330,ntmps330
 go_wp2_with fail
 go_ret
 refine⟨_,rfl,?_⟩
 exact In.nJ (cs:=zG.flatten) (ext:= []) (by rw[List.append_nil];exact h1) rfl (Nat.le_refl _) (by decide) rfl (by decide)
end
section
variable {w0 w:World} {l:List SL}
def Oz (n:Int) (v:Value):Prop:=match yU n with
 |some r=>∃s,v= .tuple #[.agg #[.int .i64 r.1,.string s,.int .i64 r.2.1,.int .i64 r.2.2],.bool true]
 |none=>v= .tuple #[.agg #[.int .i64 0,.string ⟨#[]⟩,.int .i64 (-1),.int .i64 0],.bool false]
theorem QV (h:In w0 w l) (n:Int):Calls prog 232 #[.int .i64 n] w fun e w'=>∃v,e= .returned v∧Oz n v∧In w0 w' l:=by
 have h1:=h.alloc (.cells #[.int .i64 0,.string ⟨#[]⟩,.int .i64 0,.int .i64 0] 332)
 go_enter func232,ntmps232
 go_upto_region 1 with(fail)
 refine In.abs h1 ?_
 clear h1 h
 generalize w.heap.size=z
 intro w2 h2
 have hp:=Oa h2
 go_upto_region 2 with(go_at_call 330;refine Calls.mono hp ?_;rintro _ w3 ⟨g,rfl,h3⟩)
 clear hp h2
 go_loopw [5,8] (fun _ c wr=>∃k:Nat,k≤32∧c= .int .i64 k∧((Bl.drop k).find? fun r=>decide (r.1=n))=yU n∧In w0 wr (Row 332 4 (.slice (some ⟨g,0,none⟩) 32 32) 32 zG.flatten::pts z (.cells #[.int .i64 0,.string ⟨#[]⟩,.int .i64 0,.int .i64 0] 332)::l))
  (fun _ c _=>32-(intOf c).toNat)
 case atStart=>exact⟨0,Nat.zero_le _,rfl,rfl,h3⟩
 case round=>
  obtain⟨k,hk,rfl,hf,hw⟩:=hrel
  clear h3
  by_cases hlt:k<32
  ·have hkl:k<Bl.length:=hlt
   have hget:=List.getElem?_eq_getElem hkl
   have hdr:=List.drop_eq_getElem_cons hkl
   rw[hdr,List.find?_cons]at hf
   clear hdr
   obtain⟨s,hs⟩:=Qn hget
   generalize Bl[k]=r at*
   rcases r with⟨a,p,m⟩
   simp only at hf
   have hc0:=hw.bT wB hs 0 rfl
   have hc1:=hw.bT wB hs 1 rfl
   have hc2:=hw.bT wB hs 2 rfl
   have hc3:=hw.bT wB hs 3 rfl
   rw[Nat.add_zero]at hc0
   simp only[XN]at hc0 hc1 hc2 hc3
   have n1:(k:Int)<32:=by omega
   have h6:=hw.alloc (.cells #[.int .i64 a,.string s,.int .i64 p,.int .i64 m] 332)
   go_upto_region 4 with(fail)
   refine In.abs h6 ?_
   clear h6 hw hc0 hc1 hc2 hc3
   generalize wr.heap.size=y
   intro w6 h6
   have Dw:=h6.cells
   have fZ:=(h6.ae p2).cells
   have jb:=(h6.ae p2).free
   by_cases he:a=n
   ·subst he
    rw[decide_eq_true rfl]at hf
    have hb:(a==a)=true:=by simp
    have h7:=(h6.ae p2).fill [.int .i64 a,.string s,.int .i64 p,.int .i64 m] rfl
    simp only[dm]at h7
    go_wp2_with fail
    refine In.abs h7 ?_
    clear h7 h6 Dw fZ jb
    intro w7 h7
    have hc:=h7.cells
    refine bodyPost_ret (v:= .tuple #[.agg #[.int .i64 a,.string s,.int .i64 p,.int .i64 m],.bool true]) (by simp[results,results232,go_sem,hc]) rfl ?_
    refine⟨_,rfl,?_,h7.s⟩
    unfold Oz
    rw[←hf]
    exact⟨s,rfl⟩
   ·have hb:(a==n)=false:=by simpa using he
    rw[decide_eq_false he]at hf
    clear he
    go_wp2_with fail
    go_roundw
    case rel=>exact⟨k+1,hlt,by go_num,hf,h6.s⟩
    case measure=>simp[intOf]<;>omega
  ·have hke:k=32:=by omega
   subst hke
   have hnone:yU n=none:=by rw[←hf];rfl
   have n1:¬((32:Nat):Int)<32:=by omega
   have fZ:=(hw.ae p1).cells
   have jb:=(hw.ae p1).free
   have h7:=(hw.ae p1).fill [.int .i64 0,.string ⟨#[]⟩,.int .i64 (-1),.int .i64 0] rfl
   simp only[dm]at h7
   clear hf
   go_wp2_with fail
   refine In.abs h7 ?_
   clear h7 hw fZ jb
   intro w7 h7
   have hc:=h7.cells
   refine bodyPost_ret (v:= .tuple #[.agg #[.int .i64 0,.string ⟨#[]⟩,.int .i64 (-1),.int .i64 0],.bool false]) (by simp[results,results232,go_sem,hc]) rfl ?_
   refine⟨_,rfl,?_,h7.s⟩
   unfold Oz
   rw[hnone]
theorem Sz (h:In w0 w l) (n:Int):aW 86 #[.int .i64 n] w w0 (.int .i64 (oC n)) l:=by
 have hp:=QV h n
 unfold oC
 unfold Oz at hp
 cases hq:yU n with
 |none=>
  rw[hq]at hp
  go_enter func86,ntmps86
  go_upto_region 2 with(go_at_call 232;refine Calls.mono hp ?_;rintro _ w3 ⟨v,rfl,rfl,h3⟩)
  go_wp2_with fail
  go_ret
  exact⟨rfl,(h3.alloc _).drop⟩
 |some r=>
  rw[hq]at hp
  rcases r with⟨a,p,m⟩
  go_enter func86,ntmps86
  go_upto_region 2 with(go_at_call 232;refine Calls.mono hp ?_;rintro _ w3 ⟨v,rfl,⟨s,rfl⟩,h3⟩)
  go_wp2_with fail
  go_ret
  exact⟨rfl,(h3.alloc _).drop⟩
theorem acV (w:World) (kind category:Int):Calls prog 84 #[.int .i64 kind,.int .i64 category] w fun e w'=>e= .returned (.int .i64 (jG kind category))∧w=w':=by
 have hk:(kind=1∨kind=2∨kind=3∨kind=4∨kind=5∨kind=6∨kind=7∨kind=8)∨((kind==1)=false∧(kind==2)=false∧(kind==3)=false∧(kind==4)=false∧(kind==5)=false∧(kind==6)=false∧(kind==7)=false∧(kind==8)=false∧jG kind category=0):=by
  by_cases h:kind=1∨kind=2∨kind=3∨kind=4∨kind=5∨kind=6∨kind=7∨kind=8
  ·exact .inl h
  ·right
   simp only[not_or]at h
   obtain⟨h1,h2,h3,h4,h5,h6,h7,h8⟩:=h
   exact⟨by simpa using h1,by simpa using h2,by simpa using h3,by simpa using h4,by simpa using h5,by simpa using h6,by simpa using h7,by simpa using h8,by unfold jG;simp[h1,h2,h3,h4,h5,h6,h7,h8]⟩
 rcases hk with(rfl|rfl|rfl|rfl|rfl|rfl|rfl|rfl)|⟨h1,h2,h3,h4,h5,h6,h7,h8,h9⟩
 case inr=>
  rw[h9]
  clear h9
  go_enter func84,ntmps84
  go_wp2_with fail
  go_ret
  exact⟨rfl,rfl⟩
 case inl.inr.inl=>
  have hc:(category=1∨category=2)∨((category==1)=false∧(category==2)=false∧jG 2 category=0):=by
   by_cases h:category=1∨category=2
   ·exact .inl h
   ·right
    simp only[not_or]at h
    exact⟨by simpa using h.1,by simpa using h.2,by unfold jG;simp[h.1,h.2]⟩
  rcases hc with(rfl|rfl)|⟨h1,h2,h3⟩
  ·go_enter func84,ntmps84
   go_wp2_with fail
   go_ret
   exact⟨rfl,rfl⟩
  ·go_enter func84,ntmps84
   go_wp2_with fail
   go_ret
   exact⟨rfl,rfl⟩
  ·rw[h3]
   clear h3
   go_enter func84,ntmps84
   go_wp2_with fail
   go_ret
   exact⟨rfl,rfl⟩
 all_goals
  go_enter func84,ntmps84
  go_wp2_with fail
  go_ret
  exact⟨rfl,rfl⟩
end
section
variable {w0 w:World} {l:List SL}
theorem and_one {x:Int} (h0:0≤x) (h1:x<4294967296):bits .and .i64 x 1=x%2:=by
 obtain⟨n,rfl⟩:∃n:Nat,x=n:=⟨x.toNat,by omega⟩
 unfold bits
 simp only
 have e:(BitVec.ofInt IntKind.i64.bits (n:Int)&&& BitVec.ofInt IntKind.i64.bits 1).toNat=n%2:=by
  rw[BitVec.toNat_and]
  have h2:(BitVec.ofInt IntKind.i64.bits (n:Int)).toNat=n:=by
   rw[BitVec.ofInt_natCast,BitVec.toNat_ofNat]
   exact Nat.mod_eq_of_lt (by simp[IntKind.bits];omega)
  have h3:(BitVec.ofInt IntKind.i64.bits 1).toNat=1:=by decide
  rw[h2,h3,Nat.and_one_is_mod]
 rw[e]
 have hm:n%2<2:=Nat.mod_lt _ (by decide)
 unfold IntKind.wrap
 simp[IntKind.signed,IntKind.bits]
 omega
theorem abK {n:Int} {r:Int × Int × Int} (h:yU n=some r):0≤r.2.2∧r.2.2≤319:=by
 have h1:=List.mem_of_find?_eq_some h
 have key:∀r∈Bl,0≤r.2.2∧r.2.2≤319:=by decide
 exact key r h1
theorem abV (h:In w0 w l) (n lv:Int):aW 83 #[.int .i64 n,.int .i64 lv] w w0 (.bool (tN n lv)) l:=by
 have hp:=QV h n
 unfold Oz at hp
 cases hq:yU n with
 |none=>
  rw[hq]at hp
  have e:tN n lv=false:=by unfold tN;rw[hq]
  rw[e]
  clear e
  go_enter func83,ntmps83
  go_upto_region 2 with(go_at_call 232;refine Calls.mono hp ?_;rintro _ w3 ⟨v,rfl,rfl,h3⟩)
  go_wp2_with fail
  go_ret
  exact⟨rfl,(h3.alloc _).drop⟩
 |some r=>
  have hr:=abK hq
  rw[hq]at hp
  rcases r with⟨a,p,m⟩
  simp only at hr
  have e:tN n lv=(decide (1≤lv)&&decide (lv≤9)&&decide (m/2 ^ (lv-1).toNat%2=1)):=by unfold tN;rw[hq]
  rw[e]
  clear e hq
  by_cases h1:1≤lv
  ·by_cases h9:lv≤9
   ·have hc:lv=1∨lv=2∨lv=3∨lv=4∨lv=5∨lv=6∨lv=7∨lv=8∨lv=9:=by omega
    clear h1 h9
    rcases hc with rfl|rfl|rfl|rfl|rfl|rfl|rfl|rfl|rfl
    case inl=>
     have hb:(bits .and .i64 m 1==1)=decide (m%2=1):=by rw[and_one hr.1 (by omega)];rfl
     generalize hq:decide (m%2=1)=q at hb
     have e2:(decide ((1:Int)≤1)&&decide ((1:Int)≤9)&&decide (m/2 ^ ((1:Int)-1).toNat%2=1))=q:=by rw[←hq];simp
     rw[e2]
     clear e2 hq
     go_enter func83,ntmps83
     go_upto_region 2 with(go_at_call 232;refine Calls.mono hp ?_;rintro _ w3 ⟨v,rfl,⟨s,rfl⟩,h3⟩)
     go_wp2_with fail
     go_ret
     exact⟨rfl,(h3.alloc _).drop⟩
    case inr.inl=>
     have hb:(bits .and .i64 (m/2) 1==1)=decide (m/2%2=1):=by rw[and_one (by omega) (by omega)];rfl
     generalize hq:decide (m/2%2=1)=q at hb
     have e2:(decide ((1:Int)≤2)&&decide ((2:Int)≤9)&&decide (m/2 ^ ((2:Int)-1).toNat%2=1))=q:=by rw[←hq];simp
     rw[e2]
     clear e2 hq
     go_enter func83,ntmps83
     go_upto_region 2 with(go_at_call 232;refine Calls.mono hp ?_;rintro _ w3 ⟨v,rfl,⟨s,rfl⟩,h3⟩)
     go_wp2_with fail
     go_ret
     exact⟨rfl,(h3.alloc _).drop⟩
    case inr.inr.inl=>
     have hb:(bits .and .i64 (m/4) 1==1)=decide (m/4%2=1):=by rw[and_one (by omega) (by omega)];rfl
     generalize hq:decide (m/4%2=1)=q at hb
     have e2:(decide ((1:Int)≤3)&&decide ((3:Int)≤9)&&decide (m/2 ^ ((3:Int)-1).toNat%2=1))=q:=by rw[←hq];simp
     rw[e2]
     clear e2 hq
     go_enter func83,ntmps83
     go_upto_region 2 with(go_at_call 232;refine Calls.mono hp ?_;rintro _ w3 ⟨v,rfl,⟨s,rfl⟩,h3⟩)
     go_wp2_with fail
     go_ret
     exact⟨rfl,(h3.alloc _).drop⟩
    case inr.inr.inr.inl=>
     have hb:(bits .and .i64 (m/8) 1==1)=decide (m/8%2=1):=by rw[and_one (by omega) (by omega)];rfl
     generalize hq:decide (m/8%2=1)=q at hb
     have e2:(decide ((1:Int)≤4)&&decide ((4:Int)≤9)&&decide (m/2 ^ ((4:Int)-1).toNat%2=1))=q:=by rw[←hq];simp
     rw[e2]
     clear e2 hq
     go_enter func83,ntmps83
     go_upto_region 2 with(go_at_call 232;refine Calls.mono hp ?_;rintro _ w3 ⟨v,rfl,⟨s,rfl⟩,h3⟩)
     go_wp2_with fail
     go_ret
     exact⟨rfl,(h3.alloc _).drop⟩
    case inr.inr.inr.inr.inl=>
     have hb:(bits .and .i64 (m/16) 1==1)=decide (m/16%2=1):=by rw[and_one (by omega) (by omega)];rfl
     generalize hq:decide (m/16%2=1)=q at hb
     have e2:(decide ((1:Int)≤5)&&decide ((5:Int)≤9)&&decide (m/2 ^ ((5:Int)-1).toNat%2=1))=q:=by rw[←hq];simp
     rw[e2]
     clear e2 hq
     go_enter func83,ntmps83
     go_upto_region 2 with(go_at_call 232;refine Calls.mono hp ?_;rintro _ w3 ⟨v,rfl,⟨s,rfl⟩,h3⟩)
     go_wp2_with fail
     go_ret
     exact⟨rfl,(h3.alloc _).drop⟩
    case inr.inr.inr.inr.inr.inl=>
     have hb:(bits .and .i64 (m/32) 1==1)=decide (m/32%2=1):=by rw[and_one (by omega) (by omega)];rfl
     generalize hq:decide (m/32%2=1)=q at hb
     have e2:(decide ((1:Int)≤6)&&decide ((6:Int)≤9)&&decide (m/2 ^ ((6:Int)-1).toNat%2=1))=q:=by rw[←hq];simp
     rw[e2]
     clear e2 hq
     go_enter func83,ntmps83
     go_upto_region 2 with(go_at_call 232;refine Calls.mono hp ?_;rintro _ w3 ⟨v,rfl,⟨s,rfl⟩,h3⟩)
     go_wp2_with fail
     go_ret
     exact⟨rfl,(h3.alloc _).drop⟩
    case inr.inr.inr.inr.inr.inr.inl=>
     have hb:(bits .and .i64 (m/64) 1==1)=decide (m/64%2=1):=by rw[and_one (by omega) (by omega)];rfl
     generalize hq:decide (m/64%2=1)=q at hb
     have e2:(decide ((1:Int)≤7)&&decide ((7:Int)≤9)&&decide (m/2 ^ ((7:Int)-1).toNat%2=1))=q:=by rw[←hq];simp
     rw[e2]
     clear e2 hq
     go_enter func83,ntmps83
     go_upto_region 2 with(go_at_call 232;refine Calls.mono hp ?_;rintro _ w3 ⟨v,rfl,⟨s,rfl⟩,h3⟩)
     go_wp2_with fail
     go_ret
     exact⟨rfl,(h3.alloc _).drop⟩
    case inr.inr.inr.inr.inr.inr.inr.inl=>
     have hb:(bits .and .i64 (m/128) 1==1)=decide (m/128%2=1):=by rw[and_one (by omega) (by omega)];rfl
     generalize hq:decide (m/128%2=1)=q at hb
     have e2:(decide ((1:Int)≤8)&&decide ((8:Int)≤9)&&decide (m/2 ^ ((8:Int)-1).toNat%2=1))=q:=by rw[←hq];simp
     rw[e2]
     clear e2 hq
     go_enter func83,ntmps83
     go_upto_region 2 with(go_at_call 232;refine Calls.mono hp ?_;rintro _ w3 ⟨v,rfl,⟨s,rfl⟩,h3⟩)
     go_wp2_with fail
     go_ret
     exact⟨rfl,(h3.alloc _).drop⟩
    case inr.inr.inr.inr.inr.inr.inr.inr=>
     have hb:(bits .and .i64 (m/256) 1==1)=decide (m/256%2=1):=by rw[and_one (by omega) (by omega)];rfl
     generalize hq:decide (m/256%2=1)=q at hb
     have e2:(decide ((1:Int)≤9)&&decide ((9:Int)≤9)&&decide (m/2 ^ ((9:Int)-1).toNat%2=1))=q:=by rw[←hq];simp
     rw[e2]
     clear e2 hq
     go_enter func83,ntmps83
     go_upto_region 2 with(go_at_call 232;refine Calls.mono hp ?_;rintro _ w3 ⟨v,rfl,⟨s,rfl⟩,h3⟩)
     go_wp2_with fail
     go_ret
     exact⟨rfl,(h3.alloc _).drop⟩
   ·have e:(decide (1≤lv)&&decide (lv≤9)&&decide (m/2 ^ (lv-1).toNat%2=1))=false:=by simp[h9]
    rw[e]
    clear e
    have h9':decide (lv≤9)=false:=by simp[h9]
    have h1':decide (1≤lv)=true:=by simp[h1]
    go_enter func83,ntmps83
    go_upto_region 2 with(go_at_call 232;refine Calls.mono hp ?_;rintro _ w3 ⟨v,rfl,⟨s,rfl⟩,h3⟩)
    go_wp2_with fail
    go_ret
    exact⟨rfl,(h3.alloc _).drop⟩
  ·have e:(decide (1≤lv)&&decide (lv≤9)&&decide (m/2 ^ (lv-1).toNat%2=1))=false:=by simp[h1]
   rw[e]
   clear e
   have h1':decide (1≤lv)=false:=by simp[h1]
   go_enter func83,ntmps83
   go_upto_region 2 with(go_at_call 232;refine Calls.mono hp ?_;rintro _ w3 ⟨v,rfl,⟨s,rfl⟩,h3⟩)
   go_wp2_with fail
   go_ret
   exact⟨rfl,(h3.alloc _).drop⟩
end
def uU:ah:=⟨2,1,[⟨1,1,true,1,0,-1, [],1⟩,⟨2,0,true,1,0,-1, [],0⟩],[⟨2,1⟩,⟨1,1⟩], [], [], [], [], [],2,4,2,0⟩
theorem wR:uU.check=true:=by decide+kernel
def aB.vV (T:ah) (n:Nat) (k:aB) (s:iH):Option (aB × Uu):=
 match k.clean.deed T s with
 |none=>some (k.clean,⟨0,true,(0,0,0),k.top, [], []⟩)
 |some (k1,v,st)=>match Di T n 0 (k1.mark T)with
  |some k2=>some (k2.clean,⟨st,false,v,k2.top,k2.begun,k2.aO⟩)
  |none=>none
theorem xC {T:ah} {n:Nat} {k k':aB} {s:iH} {a:Uu} (h:k.vV T n s=some (k',a)):aB.Step T k s k' a:=by
 unfold aB.vV at h
 split at h
 ·rename_i e;cases h;exact .idle e
 ·rename_i k1 v st e
  split at h
  ·rename_i k2 e2
   cases h
   exact .makes e (Bc e2)
  ·cases h
def aK.is (f:aK) (a b c d e:Int):Bool:=decide (f.kind=a)&&decide (f.id=b)&&decide (f.status=c)&&decide (f.service=d)&&decide (f.jC=e)
def VE:Bool:=
 match uU.zy.vV uU 60 ⟨1,0,0,0,0,0⟩with
 |none=>false
 |some (k1,a1)=> !a1.idle&&a1.run.is 1 0 0 0 0&&(match k1.vV uU 60 ⟨2,0,4,1,0,0⟩with
  |none=>false
  |some (k2,a2)=>a2.run.is 1 1 0 0 0&&(match k2.vV uU 60 ⟨2,0,4,1,0,0⟩with
   |none=>false
   |some (k3,a3)=>decide (a3.status=4)&&a3.run.is 4 0 4 4 1&&decide (a3.begun.length=1)&&decide (k3.marks.rings.length=2)&&decide (k3.marks.pre=1)&&decide (k3.marks.frames=2)&&decide (k3.marks.errors=1)&&
    (match k3.vV uU 60 ⟨3,0,0,0,0,0⟩with
    |none=>false
    |some (k4,a4)=>a4.run.is 1 1 0 0 0&&(match k4.vV uU 60 ⟨2,0,5,0,0,0⟩with
     |none=>false
     |some (k5,a5)=>a5.run.is 1 0 0 0 0&&decide (a5.status=0)&&(match k5.vV uU 60 ⟨1,0,0,0,0,0⟩with
      |none=>false
      |some (_,a6)=>a6.idle)))))
theorem Vm:VE=true:=by decide+kernel
theorem Dj {f:aK} {a b c d e:Int} (h:f.is a b c d e=true):f=⟨a,b,c,d,e⟩:=by
 rcases f with⟨f1,f2,f3,f4,f5⟩
 unfold aK.is at h
 simp only[Bool.and_eq_true,decide_eq_true_eq]at h
 obtain⟨⟨⟨⟨rfl,rfl⟩,rfl⟩,rfl⟩,rfl⟩:=h
 rfl
structure Ud (k1 k2 k3 k4 k5 k6:aB) (a1 a2 a3 a4 a5 a6:Uu):Prop where
 s1:aB.Step uU uU.zy ⟨1,0,0,0,0,0⟩ k1 a1
 s2:aB.Step uU k1 ⟨2,0,4,1,0,0⟩ k2 a2
 s3:aB.Step uU k2 ⟨2,0,4,1,0,0⟩ k3 a3
 s4:aB.Step uU k3 ⟨3,0,0,0,0,0⟩ k4 a4
 s5:aB.Step uU k4 ⟨2,0,5,0,0,0⟩ k5 a5
 s6:aB.Step uU k5 ⟨1,0,0,0,0,0⟩ k6 a6
 i1:a1.idle=false
 r1:a1.run=⟨1,0,0,0,0⟩
 r2:a2.run=⟨1,1,0,0,0⟩
 t3:a3.status=4
 r3:a3.run=⟨4,0,4,4,1⟩
 b3:a3.begun.length=1
 m0:k3.marks.rings.length=2
 m1:k3.marks.pre=1
 m2:k3.marks.frames=2
 m3:k3.marks.errors=1
 r4:a4.run=⟨1,1,0,0,0⟩
 r5:a5.run=⟨1,0,0,0,0⟩
 t5:a5.status=0
 i6:a6.idle=true
theorem PG:∃k1 k2 k3 k4 k5 k6 a1 a2 a3 a4 a5 a6,Ud k1 k2 k3 k4 k5 k6 a1 a2 a3 a4 a5 a6:=by
 have h:=Vm
 unfold VE at h
 cases e1:aB.vV uU 60 uU.zy ⟨1,0,0,0,0,0⟩with
 |none=>rw[e1]at h;simp at h
 |some p1=>
 obtain⟨k1,a1⟩:=p1
 rw[e1]at h
 simp only[Bool.and_eq_true,Bool.not_eq_true',decide_eq_true_eq]at h
 obtain⟨⟨i1,r1⟩,h⟩:=h
 cases e2:aB.vV uU 60 k1 ⟨2,0,4,1,0,0⟩with
 |none=>rw[e2]at h;simp at h
 |some p2=>
 obtain⟨k2,a2⟩:=p2
 rw[e2]at h
 simp only[Bool.and_eq_true,Bool.not_eq_true',decide_eq_true_eq]at h
 obtain⟨r2,h⟩:=h
 cases e3:aB.vV uU 60 k2 ⟨2,0,4,1,0,0⟩with
 |none=>rw[e3]at h;simp at h
 |some p3=>
 obtain⟨k3,a3⟩:=p3
 rw[e3]at h
 simp only[Bool.and_eq_true,Bool.not_eq_true',decide_eq_true_eq]at h
 obtain⟨⟨⟨⟨⟨⟨⟨t3,r3⟩,b3⟩,m0⟩,m1⟩,m2⟩,m3⟩,h⟩:=h
 cases e4:aB.vV uU 60 k3 ⟨3,0,0,0,0,0⟩with
 |none=>rw[e4]at h;simp at h
 |some p4=>
 obtain⟨k4,a4⟩:=p4
 rw[e4]at h
 simp only[Bool.and_eq_true,Bool.not_eq_true',decide_eq_true_eq]at h
 obtain⟨r4,h⟩:=h
 cases e5:aB.vV uU 60 k4 ⟨2,0,5,0,0,0⟩with
 |none=>rw[e5]at h;simp at h
 |some p5=>
 obtain⟨k5,a5⟩:=p5
 rw[e5]at h
 simp only[Bool.and_eq_true,Bool.not_eq_true',decide_eq_true_eq]at h
 obtain⟨⟨r5,t5⟩,h⟩:=h
 cases e6:aB.vV uU 60 k5 ⟨1,0,0,0,0,0⟩with
 |none=>rw[e6]at h;simp at h
 |some p6=>
 obtain⟨k6,a6⟩:=p6
 rw[e6]at h
 simp only[Bool.and_eq_true,Bool.not_eq_true',decide_eq_true_eq]at h
 exact⟨k1,k2,k3,k4,k5,k6,a1,a2,a3,a4,a5,a6,xC e1,xC e2,xC e3,xC e4,xC e5,xC e6,i1,Dj r1,Dj r2,t3,Dj r3,b3,m0,m1,m2,m3,Dj r4,Dj r5,t5,h⟩
end Go.Proofs.YtajgpcnlehinbaaGreat
