/- Part of a proof. -/
import Derived.OwnWalkIn
import Derived.Defers
import Derived.TacticsInMore
import Derived.Deep.CutRange
import Derived.Test.YtajgpcnlehinbaaGreatA05
import Derived.Test.YtajgpcnlehinbaaGreatA07
namespace Go.Proofs.YtajgpcnlehinbaaGreat
open Tryz Go.RowKit
set_option maxRecDepth 100000
set_option maxHeartbeats 60000000
set_option linter.all false
def lh (x:Int):List Value:=[.int .i64 x]
theorem P7 (x:Int):∀u∈lh x,u.oneCell'=true:=by simp[lh,Value.oneCell']
def ny (depth:Nat) (v:Value) (high:Int):Obj:= .cells #[.bool true,.int .i64 depth,v,.int .i64 high] 368 (0,0)
def jo (r:Nat) (s:He Int):SL:=ex fun v=>ex fun high=>
 bQ [AQ (s.depth≤1024∧s.items.length≤s.depth),pts r (ny s.depth v high),Row 3 1 v s.items.length (s.items.map lh).flatten]
theorem rY {w0 w:World} {l:List SL} {r:Nat} {s:He Int} (h:In w0 w (jo r s::l)):
 ∃v high,(s.depth≤1024∧s.items.length≤s.depth)∧In w0 w (pts r (ny s.depth v high)::Row 3 1 v s.items.length (s.items.map lh).flatten::l):=by
 obtain⟨v,h⟩:=In.aY.1 h
 obtain⟨high,h⟩:=In.aY.1 h
 obtain⟨hp,h⟩:=In.dw.1 (In.bn.1 h)
 exact⟨v,high,hp,h⟩
theorem zY {w0 w:World} {l:List SL} {r:Nat} {s:He Int} {v high} (hp:s.depth≤1024∧s.items.length≤s.depth)
 (h:In w0 w (pts r (ny s.depth v high)::Row 3 1 v s.items.length (s.items.map lh).flatten::l)):In w0 w (jo r s::l):=
 In.aY.2 ⟨v,In.aY.2 ⟨high,In.bn.2 (In.dw.2 ⟨hp,h⟩)⟩⟩
theorem acQ:ig prog 44 3 1 8 (.int .i64 0):=⟨underlying44,by kernel_rfl,rfl,by decide,by decide⟩
section
variable {w0 w:World} {l:List SL} {r:Nat} {s:He Int}
theorem xB (h:In w0 w (jo r s::l)):
 Calls prog 259 #[r] w fun e w'=>e= .returned (.bool true)∧w=w':=by
 obtain⟨v,high,ha,h⟩:=rY h
 have hr:=h.cells
 clear h
 go_enter func259,ntmps259
 go_wp2_with fail
 go_ret
 exact⟨rfl,rfl⟩
theorem I9 (w:World):
 Calls prog 259 #[.pointer none] w fun e w'=>e= .returned (.bool false)∧w=w':=by
 go_enter func259,ntmps259
 go_wp2_with fail
 go_ret
 exact⟨rfl,rfl⟩
theorem abC (h:In w0 w (jo r s::l)):
 Calls prog 349 #[r] w fun e w'=>e= .returned (.int .i64 s.items.length)∧w=w':=by
 have hal:=xB h
 obtain⟨v,high,ha,h1⟩:=rY h
 have hr:=h1.cells
 obtain⟨ao,cap,rfl⟩:∃ao cap,v= .slice ao s.items.length cap:=by
  rcases(h1.ae p1).aU with⟨rfl,e,_⟩|⟨g,cap,ext,rfl,_⟩
  ·exact⟨none,0,by rw[e]⟩
  ·exact⟨_,_,rfl⟩
 go_enter func349,ntmps349
 go_wp2_with (go_at_call 259;refine bW hal ?_)
 go_ret
 exact⟨rfl,rfl⟩
theorem Vh (h:In w0 w l) (n:Nat) (hn:n≤1024):
 Calls prog 298 #[.int .i64 n] w fun e w'=>∃r,e= .returned (.tuple #[.pointer (some ⟨r,0,none⟩),.int .i64 0])∧In w0 w' (jo r ⟨n, []⟩::l):=by
 have h1:In w0 _ (pts w.heap.size (ny n (.slice none 0 0) 0)::l):=h.alloc (ny n (.slice none 0 0) 0)
 have hd1:decide ((n:Int)<0)=false:=by simp
 have hd2:decide ((1024:Int)<(n:Int))=false:=by simp;omega
 go_enter func298,ntmps298
 go_wp2_with fail
 go_ret2
 refine⟨w.heap.size,rfl,zY (v:= .slice none 0 0) (high:=0) ⟨by simpa using hn,by simp⟩ ?_⟩
 exact(h1.dh 3 1).ae p1
theorem XD {b depth n:Nat} {v:Value} {high:Int} {cs:List Value} (u:FrameMode)
 (h:In w0 w (pts b (.cells #[r] 219)::pts r (ny depth v high)::Row 3 1 v n cs::l)):
 CallsD prog 423 #[b] u w fun e u' w'=>u'=u∧(e= .returned (.tuple #[])∧
  ∃high',In w0 w' (pts r (ny depth v high')::Row 3 1 v n cs::l)):=by
 obtain⟨ao,cap,rfl⟩:∃ao cap,v= .slice ao n cap:=by
  rcases(h.ae p2).aU with⟨rfl,e,_⟩|⟨g,cap,ext,rfl,_⟩
  ·exact⟨none,0,by rw[e]⟩
  ·exact⟨_,_,rfl⟩
 have fc_:=h.facts
 obtain⟨q,hq⟩:∃q:Int,(if high<(n:Int) then(n:Int) else high)=q:=⟨_,rfl⟩
 go_enter_d func423,ntmps423
 refine rg ⟨[],[13]⟩ [.c 1 0,.c 1 1,.c 0 2,.c 0 3,.c 1 4,.c 1 5,.c 0 6,.c 0 7,.c 1 8,.c 0 9,.c 0 10,.c 0 11,.c 0 12,.e 13] ?_
 refine rG ?_;intro K hK
 go_wp2_with fail
 try refine aS ?_
 go_wp2_with fail
 go_end0
 have h1:In w0 _ (pts r (ny depth (.slice ao n cap) q)::_):=((h.ae p1).drew).setCell (off:=3) (.int .i64 q)
 exact⟨rfl,q,h1.s⟩
theorem Q9 (x:Int) (h:In w0 w (jo r s::l)) (hf:s.items.length<s.depth):
 aW 401 #[r,.int .i64 x] w w0 (.int .i64 0) (jo r {s with items:=s.items++ [x]}::l):=by
 have h1:=h.alloc (.cells #[r] 219)
 have hmf:∀(fn:Fn) (first cap:Array Value) (w:World),(Instr.makeFunc fn first cap).run prog w= .ok (.func fn first cap) w:=fun _ _ _ _=>rfl
 go_enter_defers func401,ntmps401
 go_wp2_with (go_at_call 259;refine In.Qa h1 ?_;clear h1;intro w2 h1;refine bW (xB h1.pl) ?_;obtain⟨v,high,ha,h2⟩:=rY (h1.ae p1);have fc_:=h2.facts;clear h h1)
 generalize w.heap.size=b at*
 obtain⟨ao,cap,rfl⟩:∃ao cap,v= .slice ao s.items.length cap:=by
  rcases(h2.ae p1).aU with⟨rfl,e,_⟩|⟨g,cap,ext,rfl,_⟩
  ·exact⟨none,0,by rw[e]⟩
  ·exact⟨_,_,rfl⟩
 have hd:decide ((s.depth:Int)≤(s.items.length:Int))=false:=by simp;omega
 refine rg ⟨[], []⟩ [.c 1 0,.c 0 1,.c 0 2,.c 1 3,.c 0 4,.c 1 5,.c 0 6,.c 0 7,.c 1 8,.c 0 9] ?_
 refine lK ?_
 go_wp2_with fail
 have hS0:=(h2.drew.drew).ps [0,1]
 refine nK hS0 ⟨[6,7],[10]⟩ [.c 2 0,.c 2 1,.c 0 2,.c 0 3,.c 2 4,.c 0 5,.e 6,.e 7,.c 0 8,.c 0 9,.e 10] ?_
 refine nD ?_;intro K hK
 go_wp2_with fail
 refine df hK ((hS0.alloc _).drop) fun hS0=>?_
 refine gz rfl rfl fun K hK=>?_
 refine aZ acQ ((h2.drew.drew.ae p1).alloc (.cells (lh x).toArray 3)) rfl rfl rfl (P7 x) (by omega) ?_
 intro u w3 h3
 have e1:(s.items.map lh).flatten++lh x=((s.items++ [x]).map lh).flatten:=by simp
 rw[e1]at h3
 obtain⟨rE,cap2,rfl⟩:∃ao cap,u= .slice ao (s.items.length+1) cap:=by
  rcases h3.aU with⟨rfl,e,_⟩|⟨g,cap,ext,rfl,_⟩
  ·omega
  ·exact⟨_,_,rfl⟩
 clear h2
 have fc_:=h3.facts
 go_wp2_with fail
 refine df hK ((h3).s) fun hS0=>?_
 refine uw ?_;intro K hK
 go_wp2_with fail
 try refine aS ?_
 go_wp2_with fail
 have h4:In w0 _ (pts r (ny s.depth (.slice rE (s.items.length+1) cap2) high)::_):=(h3.ae (.there .here)).setCell (off:=2) (.slice rE (s.items.length+1) cap2)
 refine leaves_cons (f:=423) (args:=#[b]) (by simp) (by simp[go_sem]) ?_
 have h5:=h4.pr [2,0,0]
 refine(XD .returning h5).mono ?_
 rintro e u' w5 ⟨rfl,rfl,q,h6⟩
 refine⟨_,results_tmp rfl _ _ _,rfl,?_⟩
 have e2:s.items.length+1=(s.items++ [x]).length:=by simp
 rw[e2]at h6
 exact zY ⟨ha.1,by simp;omega⟩ h6
theorem D9 (p:Option Addr) (h:In w0 w l):
 Calls prog 119 #[.pointer p] w fun e w'=>∃b,e= .returned (.func (.func 258) #[] #[.pointer (some ⟨b,0,none⟩)])∧
  In w0 w' (pts b (.cells #[.pointer p] 219 (0,0))::l):=by
 have h1:=h.alloc (.cells #[.pointer p] 219)
 have hmf:∀(fn:Fn) (first cap:Array Value) (w:World),(Instr.makeFunc fn first cap).run prog w= .ok (.func fn first cap) w:=fun _ _ _ _=>rfl
 go_enter func119,ntmps119
 go_wp2_with fail
 go_ret
 exact⟨_,rfl,h1⟩
theorem LD (b:Nat):Iter prog 258 #[b] (fun(x:Int)=> .int .i64 x) []
 (pts b (.cells #[.pointer none] 219 (0,0))):=by
 intro lp J Jx L w0 w hY h
 have fc_:=h.facts
 go_enter func258,ntmps258
 go_wp2_with (go_at_call 259;refine bW (I9 w) ?_)
 refine bodyPost_ret (results_none rfl _ _ _) rfl ?_
 exact⟨⟨_,rfl⟩,.inl h⟩
theorem EY (s:He Int) (r b:Nat):Iter prog 258 #[b] (fun x=> .int .i64 x) s.items.reverse
 (star (jo r s) (pts b (.cells #[r] 219 (0,0)))):=by
 intro lp J Jx L w0 w hY h
 have h1:=In.dP.1 h
 have hal:=xB h1
 obtain⟨v,high,ha,h2⟩:=rY h1
 obtain⟨ao,cap,rfl⟩:∃ao cap,v= .slice ao s.items.length cap:=by
  rcases(h2.ae p1).aU with⟨rfl,e,_⟩|⟨g,cap,ext,rfl,_⟩
  ·exact⟨none,0,by rw[e]⟩
  ·exact⟨_,_,rfl⟩
 have fc_:=h2.facts
 go_enter func258,ntmps258
 go_wp2_with (first|(go_at_call 259;refine bW hal ?_)|(with_reducible apply bH))
 unfold Stop
 refine pU acQ ((h2.ae p1).dh _ _) (by rfl) (by rfl) (by omega) ?_
 intro u w2 h3
 rw[List.nil_append,Nat.zero_add]at h3
 have h4:In w0 w2 (Row 3 1 u s.items.length (s.items.map lh).flatten::jo r s::pts b (.cells #[r] 219 (0,0))::J []::L):=
  (zY ha ((h3.ae p1).ae p2)).ae p1
 obtain⟨rE,cap2,rfl⟩:∃ao cap,u= .slice ao s.items.length cap:=by
  rcases h3.aU with⟨rfl,e,_⟩|⟨g,cap,ext,rfl,_⟩
  ·exact⟨none,0,by rw[e]⟩
  ·exact⟨_,_,rfl⟩
 clear h3 h2 h1 h hal
 go_wp2_with fail
 go_loopw [4] (fun c wr=>∃k:Nat,k≤s.items.length∧c= .int .i64 ((k:Int)-1)∧
  In w0 wr (Row 3 1 (.slice rE s.items.length cap2) s.items.length (s.items.map lh).flatten::jo r s::pts b (.cells #[r] 219 (0,0))::J (s.items.reverse.take (s.items.length-k))::L))
  (fun c _=>(intOf c+1).toNat)
 case atStart=>exact⟨s.items.length,Nat.le_refl _,rfl,by rw[Nat.sub_self];exact h4⟩
 case round=>
  obtain⟨k,hk,rfl,hw⟩:=hrel
  clear h4
  rcases k with _|m
  ·rw[Nat.sub_zero,←List.length_reverse,List.take_length]at hw
   go_wp2_with fail
   go_end0
   exact⟨⟨_,rfl⟩,.inl (In.dP.2 (by rw[List.length_reverse]at hw;exact hw.drop))⟩
  ·have e1:((m+1:Nat):Int)-1=m:=by omega
   rw[e1]
   rcases hw.aU with⟨_,e,_⟩|⟨g,cap,ext,e,q1,q2,q3,_⟩
   ·omega
   cases e
   have hlt:m<s.items.length:=hk
   have hcell:=fun(j:Nat) (u:Value) (hu:(lh s.items[m])[j]? =some u)=>hw.bT (sl:=s.items.map lh) (i:=m) (x:=lh s.items[m]) (by intro x hx;obtain⟨q,_,rfl⟩:=List.mem_map.1 hx;rfl) (by simp[hlt]) j hu
   have hj:s.items.length-(m+1)<s.items.reverse.length:=by rw[List.length_reverse];omega
   have hnext:s.items.reverse.take (s.items.length-m)=s.items.reverse.take (s.items.length-(m+1))++ [s.items[m]]:=by
    have e2:s.items.length-m=s.items.length-(m+1)+1:=by omega
    rw[e2,List.take_succ_eq_append_getElem hj,List.getElem_reverse]
    have e3:s.items.length-1-(s.items.length-(m+1))=m:=by omega
    simp only[e3]
   have hpre:s.items.reverse.take (s.items.length-(m+1))++ [s.items[m]]<+:s.items.reverse:=by rw[←hnext];exact List.take_prefix _ _
   obtain⟨fn,tmps,assign,body,hy,hR⟩:=hY _ _ _ _ hpre (hw.ae p3)
   generalize hx:s.items[m]=x at*
   have hc:wr.cell? ⟨g,m,none⟩=some (.int .i64 x):=by simpa using hcell 0 _ rfl
   clear hcell
   go_upto_region 5 with(fail)
   refine(wpIn_wide (n:=0)).1 ?_
   gi_wp2
   have hw64:wrap64 ((m:Int)-1)=(m:Int)-1:=by unfold wrap64;omega
   refine⟨rfl,hR.mono ?_⟩
   rintro e w3 (⟨rfl,h5⟩|⟨rfl,h5⟩)
   ·gi_wp2
    go_wp2_with fail
    go_roundw
    case rel=>exact⟨m,by omega,by first|rfl|rw[hw64],by rw[hnext];exact h5.push p3⟩
    case measure=>((try simp only[hw64]);simp[intOf]<;>omega)
   ·gi_wp2
    go_wp2_with fail
    refine bodyPost_ret (results_none rfl _ _ _) rfl ?_
    have h6:=(h5.ae p1).drop
    exact⟨⟨_,rfl⟩,.inr ⟨_,hpre,In.dP.2 ((h6.ae p2).ae p2)⟩⟩
theorem YZ (w:World):
 Calls prog 334 #[.pointer none] w fun e w'=>e= .returned (.tuple #[.int .i64 0,.bool false])∧w=w':=by
 go_enter func334,ntmps334
 go_wp2_with (go_at_call 259;refine bW (I9 w) ?_)
 go_ret2
 exact⟨rfl,rfl⟩
theorem zJ (h:In w0 w (jo r s::l)) (hs:s.items= []):
 Calls prog 334 #[r] w fun e w'=>e= .returned (.tuple #[.int .i64 0,.bool false])∧w=w':=by
 have hal:=xB h
 obtain⟨v,high,ha,h1⟩:=rY h
 rw[hs]at h1
 obtain⟨ao,cap,rfl⟩:∃ao cap,v= .slice ao 0 cap:=by
  rcases(h1.ae p1).aU with⟨rfl,e,_⟩|⟨g,cap,ext,rfl,_⟩
  ·exact⟨none,0,rfl⟩
  ·exact⟨_,_,rfl⟩
 have fc_:=h1.facts
 clear hs
 go_enter func334,ntmps334
 go_wp2_with (go_at_call 259;refine bW hal ?_)
 go_ret2
 exact⟨rfl,rfl⟩
theorem FU {x:Int} {xs:List Int} (h:In w0 w (jo r s::l)) (hs:s.items=xs++ [x]):
 aW 334 #[r] w w0 (.tuple #[.int .i64 x,.bool true]) (jo r s::l):=by
 have hal:=xB h
 obtain⟨v,high,ha,h1⟩:=rY h
 have hn:s.items.length=xs.length+1:=by simp[hs]
 have ha2:=ha.2
 have ha1:=ha.1
 rcases(h1.ae p1).aU with⟨_,e,_⟩|⟨g,cap,ext,rfl,q1,q2,q3,h1g⟩
 ·omega
 have hcell:w.cell? ⟨g,xs.length,none⟩=some (.int .i64 x):=by
  have:=(h1.ae p1).bT (sl:=s.items.map lh) (i:=xs.length) (x:=lh x) (by intro y hy;obtain⟨q,_,rfl⟩:=List.mem_map.1 hy;rfl) (by simp[hs]) 0 rfl
  simpa using this
 have fc_:=h1.facts
 clear hs h1 h1g
 have hd:((xs.length:Int)+1==0)=false:=by simp;omega
 have e9:(xs.length:Int)+1-1=xs.length:=by omega
 have e12:(xs.length:Int)<(xs.length:Int)+1:=by omega
 go_enter func334,ntmps334
 go_wp2_with (go_at_call 259;refine bW hal ?_)
 refine rg ⟨[], []⟩ [.c 0 0,.c 0 1,.c 0 2,.c 1 3,.c 0 4,.c 0 5,.c 0 6,.c 1 7,.c 0 8,.c 0 9,.c 0 10,.c 1 11,.c 0 12,.c 0 13] ?_
 refine lK ?_
 go_wp2_with fail
 go_ret2
 exact⟨rfl,h.drew⟩
theorem PU {x:Int} {xs:List Int} (h:In w0 w (jo r s::l)) (hs:s.items=xs++ [x]):
 aW 402 #[r] w w0 (.tuple #[.int .i64 x,.int .i64 0]) (jo r {s with items:=xs}::l):=by
 have hal:=xB h
 obtain⟨v,high,ha,h1⟩:=rY h
 have hn:s.items.length=xs.length+1:=by simp[hs]
 have ha2:=ha.2
 have ha1:=ha.1
 rcases(h1.ae p1).aU with⟨_,e,_⟩|⟨g,cap,ext,rfl,q1,q2,q3,h1g⟩
 ·omega
 have hcell:w.cell? ⟨g,xs.length,none⟩=some (.int .i64 x):=by
  have:=(h1.ae p1).bT (sl:=s.items.map lh) (i:=xs.length) (x:=lh x) (by intro y hy;obtain⟨q,_,rfl⟩:=List.mem_map.1 hy;rfl) (by simp[hs]) 0 rfl
  simpa using this
 have h2:=((h1.ae p1).NG (k:=xs.length) (by omega)).ae p1
 have e5:(s.items.map lh).flatten.take (xs.length*1)=(xs.map lh).flatten:=by
  have e6:(xs.map lh).flatten.length=xs.length*1:=by
   have:=jW (sl:=xs.map lh) (size:=1) (by intro y hy;obtain⟨q,_,rfl⟩:=List.mem_map.1 hy;rfl)
   simpa using this
  rw[hs,List.map_append,List.flatten_append,←e6,List.take_left']
  rfl
 rw[e5]at h2
 have fc_:=h1.facts
 clear hs h1 h1g e5
 have hd:((xs.length:Int)+1==0)=false:=by simp;omega
 have e9:(xs.length:Int)+1-1=xs.length:=by omega
 have e12:(xs.length:Int)<(xs.length:Int)+1:=by omega
 have e13:(xs.length:Int)≤(cap:Int):=by omega
 have e14:¬cap=0:=by omega
 have e15:(0:Int)≤(xs.length:Int):=by omega
 go_enter func402,ntmps402
 go_wp2_with (go_at_call 259;refine bW hal ?_)
 refine rg ⟨[], []⟩ [.c 0 0,.c 0 1,.c 0 2,.c 1 3,.c 0 4,.c 0 5,.c 0 6,.c 1 7,.c 0 8,.c 0 9,.c 0 10,.c 1 11,.c 0 12] ?_
 refine lK ?_
 go_wp2_with fail
 refine rg ⟨[],[14]⟩ [.c 0 0,.c 0 1,.c 0 2,.c 0 3,.c 1 4,.c 0 5,.c 0 6,.c 0 7,.c 1 8,.c 0 9,.c 0 10,.c 0 11,.c 0 12,.c 0 13,.e 14] ?_
 refine rG ?_;intro K hK
 go_wp2_with fail
 try refine aS ?_
 go_wp2_with fail
 go_ret2
 have h3:In w0 _ (pts r (ny s.depth (.slice (some ⟨g,0,none⟩) xs.length cap) high)::_):=(h2.drew.drew).setCell (off:=2) (.slice (some ⟨g,0,none⟩) xs.length cap)
 exact⟨rfl,zY ⟨ha.1,by simp;omega⟩ h3⟩
end
def jI (x:oV):List Value:=[.int .i64 x.frame.kind,.int .i64 x.frame.id,.int .i64 x.frame.status,.int .i64 x.frame.service,.int .u32 x.frame.jC,.bool x.gate.shut,.int .i64 x.gate.all,.int .i64 x.gate.os]
theorem Gx (x:oV):∀u∈jI x,u.oneCell'=true:=by simp[jI,Value.oneCell']
def nz (depth:Nat) (v:Value) (high:Int):Obj:= .cells #[.bool true,.int .i64 depth,v,.int .i64 high] 172 (0,0)
def gG (r:Nat) (s:He oV):SL:=ex fun v=>ex fun high=>
 bQ [AQ (s.depth≤1024∧s.items.length≤s.depth),pts r (nz s.depth v high),Row 102 8 v s.items.length (s.items.map jI).flatten]
theorem ng {w0 w:World} {l:List SL} {r:Nat} {s:He oV} (h:In w0 w (gG r s::l)):
 ∃v high,(s.depth≤1024∧s.items.length≤s.depth)∧In w0 w (pts r (nz s.depth v high)::Row 102 8 v s.items.length (s.items.map jI).flatten::l):=by
 obtain⟨v,h⟩:=In.aY.1 h
 obtain⟨high,h⟩:=In.aY.1 h
 obtain⟨hp,h⟩:=In.dw.1 (In.bn.1 h)
 exact⟨v,high,hp,h⟩
theorem uM {w0 w:World} {l:List SL} {r:Nat} {s:He oV} {v high} (hp:s.depth≤1024∧s.items.length≤s.depth)
 (h:In w0 w (pts r (nz s.depth v high)::Row 102 8 v s.items.length (s.items.map jI).flatten::l)):In w0 w (gG r s::l):=
 In.aY.2 ⟨v,In.aY.2 ⟨high,In.bn.2 (In.dw.2 ⟨hp,h⟩)⟩⟩
theorem abf:ig prog 170 102 8 64 (.agg #[.int .i64 0,.int .i64 0,.int .i64 0,.int .i64 0,.int .u32 0,.bool false,.int .i64 0,.int .i64 0]):=⟨underlying170,by kernel_rfl,rfl,by decide,by decide⟩
section
variable {w0 w:World} {l:List SL} {r:Nat} {s:He oV}
theorem uT (h:In w0 w (gG r s::l)):
 Calls prog 76 #[r] w fun e w'=>e= .returned (.bool true)∧w=w':=by
 obtain⟨v,high,ha,h⟩:=ng h
 have hr:=h.cells
 clear h
 go_enter func76,ntmps76
 go_wp2_with fail
 go_ret
 exact⟨rfl,rfl⟩
theorem Xu (h:In w0 w (gG r s::l)):
 Calls prog 30 #[r] w fun e w'=>e= .returned (.int .i64 s.items.length)∧w=w':=by
 have hal:=uT h
 obtain⟨v,high,ha,h1⟩:=ng h
 have hr:=h1.cells
 obtain⟨ao,cap,rfl⟩:∃ao cap,v= .slice ao s.items.length cap:=by
  rcases(h1.ae p1).aU with⟨rfl,e,_⟩|⟨g,cap,ext,rfl,_⟩
  ·exact⟨none,0,by rw[e]⟩
  ·exact⟨_,_,rfl⟩
 go_enter func30,ntmps30
 go_wp2_with (go_at_call 76;refine bW hal ?_)
 go_ret
 exact⟨rfl,rfl⟩
theorem aa6 (h:In w0 w l) (n:Nat) (hn:n≤1024):
 Calls prog 68 #[.int .i64 n] w fun e w'=>∃r,e= .returned (.tuple #[.pointer (some ⟨r,0,none⟩),.int .i64 0])∧In w0 w' (gG r ⟨n, []⟩::l):=by
 have h1:In w0 _ (pts w.heap.size (nz n (.slice none 0 0) 0)::l):=h.alloc (nz n (.slice none 0 0) 0)
 have hd1:decide ((n:Int)<0)=false:=by simp
 have hd2:decide ((1024:Int)<(n:Int))=false:=by simp;omega
 go_enter func68,ntmps68
 go_wp2_with fail
 go_ret2
 refine⟨w.heap.size,rfl,uM (v:= .slice none 0 0) (high:=0) ⟨by simpa using hn,by simp⟩ ?_⟩
 exact(h1.dh 102 8).ae p1
theorem Vk {b depth n:Nat} {v:Value} {high:Int} {cs:List Value} (u:FrameMode)
 (h:In w0 w (pts b (.cells #[r] 86)::pts r (nz depth v high)::Row 102 8 v n cs::l)):
 CallsD prog 305 #[b] u w fun e u' w'=>u'=u∧(e= .returned (.tuple #[])∧
  ∃high',In w0 w' (pts r (nz depth v high')::Row 102 8 v n cs::l)):=by
 obtain⟨ao,cap,rfl⟩:∃ao cap,v= .slice ao n cap:=by
  rcases(h.ae p2).aU with⟨rfl,e,_⟩|⟨g,cap,ext,rfl,_⟩
  ·exact⟨none,0,by rw[e]⟩
  ·exact⟨_,_,rfl⟩
 have fc_:=h.facts
 obtain⟨q,hq⟩:∃q:Int,(if high<(n:Int) then(n:Int) else high)=q:=⟨_,rfl⟩
 go_enter_d func305,ntmps305
 refine rg ⟨[],[13]⟩ [.c 1 0,.c 1 1,.c 0 2,.c 0 3,.c 1 4,.c 1 5,.c 0 6,.c 0 7,.c 1 8,.c 0 9,.c 0 10,.c 0 11,.c 0 12,.e 13] ?_
 refine rG ?_;intro K hK
 go_wp2_with fail
 try refine aS ?_
 go_wp2_with fail
 go_end0
 have h1:In w0 _ (pts r (nz depth (.slice ao n cap) q)::_):=((h.ae p1).drew).setCell (off:=3) (.int .i64 q)
 exact⟨rfl,q,h1.s⟩
theorem ZZ (x:oV) (h:In w0 w (gG r s::l)) (hf:s.items.length<s.depth):
 aW 211 #[r,.agg #[.int .i64 x.frame.kind,.int .i64 x.frame.id,.int .i64 x.frame.status,.int .i64 x.frame.service,.int .u32 x.frame.jC,.bool x.gate.shut,.int .i64 x.gate.all,.int .i64 x.gate.os]] w w0 (.int .i64 0) (gG r {s with items:=s.items++ [x]}::l):=by
 have h1:=h.alloc2 (.cells #[r] 86) (EG x.frame.kind x.frame.id x.frame.status x.frame.service x.frame.jC x.gate.shut x.gate.all x.gate.os)
 have hmf:∀(fn:Fn) (first cap:Array Value) (w:World),(Instr.makeFunc fn first cap).run prog w= .ok (.func fn first cap) w:=fun _ _ _ _=>rfl
 go_enter_defers func211,ntmps211
 go_wp2_with (go_at_call 76;refine In.Qa h1 ?_;clear h1;intro w2 h1;refine bW (uT h1.pl) ?_;obtain⟨v,high,ha,h2⟩:=ng (h1.ae p2);have fc_:=h2.facts;clear h h1)
 generalize w.heap.size=b at*
 obtain⟨ao,cap,rfl⟩:∃ao cap,v= .slice ao s.items.length cap:=by
  rcases(h2.ae p1).aU with⟨rfl,e,_⟩|⟨g,cap,ext,rfl,_⟩
  ·exact⟨none,0,by rw[e]⟩
  ·exact⟨_,_,rfl⟩
 have hd:decide ((s.depth:Int)≤(s.items.length:Int))=false:=by simp;omega
 refine rg ⟨[], []⟩ [.c 1 0,.c 0 1,.c 0 2,.c 1 3,.c 0 4,.c 1 5,.c 0 6,.c 0 7,.c 1 8,.c 0 9] ?_
 refine lK ?_
 go_wp2_with fail
 have hS0:=(h2.drew.drew).ps [0,2]
 refine nK hS0 ⟨[6,7],[10]⟩ [.c 2 0,.c 2 1,.c 0 2,.c 0 3,.c 2 4,.c 1 5,.e 6,.e 7,.c 0 8,.c 0 9,.e 10] ?_
 refine nD ?_;intro K hK
 go_wp2_with fail
 refine df hK ((hS0.alloc _).drop) fun hS0=>?_
 refine gz rfl rfl fun K hK=>?_
 refine aZ abf ((h2.drew.drew.ae p1).alloc (.cells (jI x).toArray 102)) rfl rfl rfl (Gx x) (by omega) ?_
 intro u w3 h3
 have e1:(s.items.map jI).flatten++jI x=((s.items++ [x]).map jI).flatten:=by simp
 rw[e1]at h3
 obtain⟨rE,cap2,rfl⟩:∃ao cap,u= .slice ao (s.items.length+1) cap:=by
  rcases h3.aU with⟨rfl,e,_⟩|⟨g,cap,ext,rfl,_⟩
  ·omega
  ·exact⟨_,_,rfl⟩
 clear h2
 have fc_:=h3.facts
 go_wp2_with fail
 refine df hK ((h3).s) fun hS0=>?_
 refine uw ?_;intro K hK
 go_wp2_with fail
 try refine aS ?_
 go_wp2_with fail
 have h4:In w0 _ (pts r (nz s.depth (.slice rE (s.items.length+1) cap2) high)::_):=(h3.ae (.there .here)).setCell (off:=2) (.slice rE (s.items.length+1) cap2)
 refine leaves_cons (f:=305) (args:=#[b]) (by simp) (by simp[go_sem]) ?_
 have h5:=h4.pr [3,0,0] 1
 refine(Vk .returning h5).mono ?_
 rintro e u' w5 ⟨rfl,rfl,q,h6⟩
 refine⟨_,results_tmp rfl _ _ _,rfl,?_⟩
 have e2:s.items.length+1=(s.items++ [x]).length:=by simp
 rw[e2]at h6
 exact uM ⟨ha.1,by simp;omega⟩ h6
theorem WZ (p:Option Addr) (h:In w0 w l):
 Calls prog 46 #[.pointer p] w fun e w'=>∃b,e= .returned (.func (.func 125) #[] #[.pointer (some ⟨b,0,none⟩)])∧
  In w0 w' (pts b (.cells #[.pointer p] 86 (0,0))::l):=by
 have h1:=h.alloc (.cells #[.pointer p] 86)
 have hmf:∀(fn:Fn) (first cap:Array Value) (w:World),(Instr.makeFunc fn first cap).run prog w= .ok (.func fn first cap) w:=fun _ _ _ _=>rfl
 go_enter func46,ntmps46
 go_wp2_with fail
 go_ret
 exact⟨_,rfl,h1⟩
theorem Rt (s:He oV) (r b:Nat):Iter prog 125 #[b] (fun x=> .agg #[.int .i64 x.frame.kind,.int .i64 x.frame.id,.int .i64 x.frame.status,.int .i64 x.frame.service,.int .u32 x.frame.jC,.bool x.gate.shut,.int .i64 x.gate.all,.int .i64 x.gate.os]) s.items.reverse
 (star (gG r s) (pts b (.cells #[r] 86 (0,0)))):=by
 intro lp J Jx L w0 w hY h
 have h1:=In.dP.1 h
 have hal:=uT h1
 obtain⟨v,high,ha,h2⟩:=ng h1
 obtain⟨ao,cap,rfl⟩:∃ao cap,v= .slice ao s.items.length cap:=by
  rcases(h2.ae p1).aU with⟨rfl,e,_⟩|⟨g,cap,ext,rfl,_⟩
  ·exact⟨none,0,by rw[e]⟩
  ·exact⟨_,_,rfl⟩
 have fc_:=h2.facts
 go_enter func125,ntmps125
 go_wp2_with (first|(go_at_call 76;refine bW hal ?_)|(with_reducible apply bH))
 unfold Stop
 refine pU abf ((h2.ae p1).dh _ _) (by rfl) (by rfl) (by omega) ?_
 intro u w2 h3
 rw[List.nil_append,Nat.zero_add]at h3
 have h4:In w0 w2 (Row 102 8 u s.items.length (s.items.map jI).flatten::gG r s::pts b (.cells #[r] 86 (0,0))::J []::L):=
  (uM ha ((h3.ae p1).ae p2)).ae p1
 obtain⟨rE,cap2,rfl⟩:∃ao cap,u= .slice ao s.items.length cap:=by
  rcases h3.aU with⟨rfl,e,_⟩|⟨g,cap,ext,rfl,_⟩
  ·exact⟨none,0,by rw[e]⟩
  ·exact⟨_,_,rfl⟩
 clear h3 h2 h1 h hal
 go_wp2_with fail
 go_loopw [4] (fun c wr=>∃k:Nat,k≤s.items.length∧c= .int .i64 ((k:Int)-1)∧
  In w0 wr (Row 102 8 (.slice rE s.items.length cap2) s.items.length (s.items.map jI).flatten::gG r s::pts b (.cells #[r] 86 (0,0))::J (s.items.reverse.take (s.items.length-k))::L))
  (fun c _=>(intOf c+1).toNat)
 case atStart=>exact⟨s.items.length,Nat.le_refl _,rfl,by rw[Nat.sub_self];exact h4⟩
 case round=>
  obtain⟨k,hk,rfl,hw⟩:=hrel
  clear h4
  rcases k with _|m
  ·rw[Nat.sub_zero,←List.length_reverse,List.take_length]at hw
   go_wp2_with fail
   go_end0
   exact⟨⟨_,rfl⟩,.inl (In.dP.2 (by rw[List.length_reverse]at hw;exact hw.drop))⟩
  ·have e1:((m+1:Nat):Int)-1=m:=by omega
   rw[e1]
   rcases hw.aU with⟨_,e,_⟩|⟨g,cap,ext,e,q1,q2,q3,_⟩
   ·omega
   cases e
   have hlt:m<s.items.length:=hk
   have hcell:=fun(j:Nat) (u:Value) (hu:(jI s.items[m])[j]? =some u)=>hw.bT (sl:=s.items.map jI) (i:=m) (x:=jI s.items[m]) (by intro x hx;obtain⟨q,_,rfl⟩:=List.mem_map.1 hx;rfl) (by simp[hlt]) j hu
   have hj:s.items.length-(m+1)<s.items.reverse.length:=by rw[List.length_reverse];omega
   have hnext:s.items.reverse.take (s.items.length-m)=s.items.reverse.take (s.items.length-(m+1))++ [s.items[m]]:=by
    have e2:s.items.length-m=s.items.length-(m+1)+1:=by omega
    rw[e2,List.take_succ_eq_append_getElem hj,List.getElem_reverse]
    have e3:s.items.length-1-(s.items.length-(m+1))=m:=by omega
    simp only[e3]
   have hpre:s.items.reverse.take (s.items.length-(m+1))++ [s.items[m]]<+:s.items.reverse:=by rw[←hnext];exact List.take_prefix _ _
   obtain⟨fn,tmps,assign,body,hy,hR⟩:=hY _ _ _ _ hpre (hw.ae p3)
   generalize hx:s.items[m]=x at*
   have hc0:wr.cell? ⟨g,m*8,none⟩=some (.int .i64 x.frame.kind):=hcell 0 _ rfl;have hc1:wr.cell? ⟨g,m*8+1,none⟩=some (.int .i64 x.frame.id):=hcell 1 _ rfl;have hc2:wr.cell? ⟨g,m*8+2,none⟩=some (.int .i64 x.frame.status):=hcell 2 _ rfl;have hc3:wr.cell? ⟨g,m*8+3,none⟩=some (.int .i64 x.frame.service):=hcell 3 _ rfl;have hc4:wr.cell? ⟨g,m*8+4,none⟩=some (.int .u32 x.frame.jC):=hcell 4 _ rfl;have hc5:wr.cell? ⟨g,m*8+5,none⟩=some (.bool x.gate.shut):=hcell 5 _ rfl;have hc6:wr.cell? ⟨g,m*8+6,none⟩=some (.int .i64 x.gate.all):=hcell 6 _ rfl;have AY:wr.cell? ⟨g,m*8+7,none⟩=some (.int .i64 x.gate.os):=hcell 7 _ rfl
   clear hcell
   go_upto_region 5 with(fail)
   refine(wpIn_wide (n:=0)).1 ?_
   gi_wp2
   have hw64:wrap64 ((m:Int)-1)=(m:Int)-1:=by unfold wrap64;omega
   refine⟨rfl,hR.mono ?_⟩
   rintro e w3 (⟨rfl,h5⟩|⟨rfl,h5⟩)
   ·gi_wp2
    go_wp2_with fail
    go_roundw
    case rel=>exact⟨m,by omega,by first|rfl|rw[hw64],by rw[hnext];exact h5.push p3⟩
    case measure=>((try simp only[hw64]);simp[intOf]<;>omega)
   ·gi_wp2
    go_wp2_with fail
    refine bodyPost_ret (results_none rfl _ _ _) rfl ?_
    have h6:=(h5.ae p1).drop
    exact⟨⟨_,rfl⟩,.inr ⟨_,hpre,In.dP.2 ((h6.ae p2).ae p2)⟩⟩
theorem EC (h:In w0 w (gG r s::l)) (hs:s.items= []):
 aW 81 #[r] w w0 (.tuple #[(.agg #[.int .i64 0,.int .i64 0,.int .i64 0,.int .i64 0,.int .u32 0,.bool false,.int .i64 0,.int .i64 0]),.bool false]) (gG r s::l):=by
 have h2:=h.alloc2 (EG 0 0 0 0 0 false 0 0) (EG 0 0 0 0 0 false 0 0)
 go_enter func81,ntmps81
 go_wp2_with (go_at_call 76;refine In.Qa h2 ?_;clear h2;intro w2 h2;refine bW (uT h2.pl) ?_;obtain⟨v,high,ha,h1⟩:=ng (h2.ae p2);rw[hs]at h1;obtain⟨ao,cap,rfl⟩:∃ao cap,v= .slice ao 0 cap:=(by
  rcases(h1.ae p1).aU with⟨rfl,e,_⟩|⟨g,cap,ext,rfl,_⟩
  ·exact⟨none,0,rfl⟩
  ·exact⟨_,_,rfl⟩);have fc_:=h1.facts)
 have h5:In w0 _ (pts w.heap.size (EG 0 0 0 0 0 false 0 0)::_):=((((((((h1.ae p3).setCell (off:=0) (.int .i64 0)).setCell (off:=1) (.int .i64 0)).setCell (off:=2) (.int .i64 0)).setCell (off:=3) (.int .i64 0)).setCell (off:=4) (.int .u32 0)).setCell (off:=5) (.bool false)).setCell (off:=6) (.int .i64 0)).setCell (off:=7) (.int .i64 0)
 refine In.abs h5 ?_
 clear h5
 intro w3 h5
 have hc:=h5.cells
 refine bodyPost_ret (v:= .tuple #[(.agg #[.int .i64 0,.int .i64 0,.int .i64 0,.int .i64 0,.int .u32 0,.bool false,.int .i64 0,.int .i64 0]),.bool false]) (by simp[results,results81,go_sem,hc]) rfl ?_
 have h6:=(h5.drop)
 rw[←hs]at h6
 exact⟨rfl,(uM ha (by rw[hs];exact h5.drop)).s⟩
theorem F6 {x:oV} {xs:List oV} (h:In w0 w (gG r s::l)) (hs:s.items=xs++ [x]):
 aW 81 #[r] w w0 (.tuple #[.agg #[.int .i64 x.frame.kind,.int .i64 x.frame.id,.int .i64 x.frame.status,.int .i64 x.frame.service,.int .u32 x.frame.jC,.bool x.gate.shut,.int .i64 x.gate.all,.int .i64 x.gate.os],.bool true]) (gG r s::l):=by
 have h2:=h.alloc2 (EG 0 0 0 0 0 false 0 0) (EG 0 0 0 0 0 false 0 0)
 have hn:s.items.length=xs.length+1:=by simp[hs]
 have hd:((xs.length:Int)+1==0)=false:=by simp;omega
 have e9:(xs.length:Int)+1-1=xs.length:=by omega
 have e12:(xs.length:Int)<(xs.length:Int)+1:=by omega
 go_enter func81,ntmps81
 go_wp2_with (go_at_call 76;refine In.Qa h2 ?_;clear h2;intro w2 h2;refine bW (uT h2.pl) ?_;obtain⟨v,high,ha,h1⟩:=ng (h2.ae p2);have ha2:=ha.2;have ha1:=ha.1;obtain⟨g,cap,rfl,hgc⟩:∃g cap,v= .slice (some ⟨g,0,none⟩) s.items.length cap∧s.items.length≤cap:=(by
  rcases(h1.ae p1).aU with⟨_,e,_⟩|⟨g,cap,ext,rfl,q,_⟩
  ·omega
  ·exact⟨_,_,rfl,q⟩);have fc_:=h1.facts)
 have hcell:=fun(j:Nat) (u:Value) (hu:(jI x)[j]? =some u)=>(h1.ae p1).bT (sl:=s.items.map jI) (i:=xs.length) (x:=jI x) (by intro y hy;obtain⟨q,_,rfl⟩:=List.mem_map.1 hy;rfl) (by simp[hs]) j hu
 have hc0:w2.cell? ⟨g,xs.length*8,none⟩=some (.int .i64 x.frame.kind):=hcell 0 _ rfl
 have hc1:w2.cell? ⟨g,xs.length*8+1,none⟩=some (.int .i64 x.frame.id):=hcell 1 _ rfl
 have hc2:w2.cell? ⟨g,xs.length*8+2,none⟩=some (.int .i64 x.frame.status):=hcell 2 _ rfl
 have hc3:w2.cell? ⟨g,xs.length*8+3,none⟩=some (.int .i64 x.frame.service):=hcell 3 _ rfl
 have hc4:w2.cell? ⟨g,xs.length*8+4,none⟩=some (.int .u32 x.frame.jC):=hcell 4 _ rfl
 have hc5:w2.cell? ⟨g,xs.length*8+5,none⟩=some (.bool x.gate.shut):=hcell 5 _ rfl
 have hc6:w2.cell? ⟨g,xs.length*8+6,none⟩=some (.int .i64 x.gate.all):=hcell 6 _ rfl
 have AY:w2.cell? ⟨g,xs.length*8+7,none⟩=some (.int .i64 x.gate.os):=hcell 7 _ rfl
 clear hcell
 refine rg ⟨[],[12]⟩ [.c 0 0,.c 0 1,.c 0 2,.c 1 3,.c 0 4,.c 0 5,.c 0 6,.c 1 7,.c 0 8,.c 0 9,.c 0 10,.c 1 11,.e 12,.c 0 13] ?_
 refine rG ?_;intro K hK
 go_wp2_with fail
 refine lK ?_
 go_wp2_with fail
 have h5:=((h1.ae p3).fill [.int .i64 x.frame.kind,.int .i64 x.frame.id,.int .i64 x.frame.status,.int .i64 x.frame.service,.int .u32 x.frame.jC,.bool x.gate.shut,.int .i64 x.gate.all,.int .i64 x.gate.os] rfl).drew
 simp only[dm]at h5
 refine In.abs h5 ?_
 clear h5
 intro w3 h5
 have hc:=h5.cells
 refine bodyPost_ret (v:= .tuple #[.agg #[.int .i64 x.frame.kind,.int .i64 x.frame.id,.int .i64 x.frame.status,.int .i64 x.frame.service,.int .u32 x.frame.jC,.bool x.gate.shut,.int .i64 x.gate.all,.int .i64 x.gate.os],.bool true]) (by simp[results,results81,go_sem,hc]) rfl ?_
 exact⟨rfl,(uM ha h5.drop).s⟩
theorem Bq {x:oV} {xs:List oV} (h:In w0 w (gG r s::l)) (hs:s.items=xs++ [x]):
 aW 91 #[r] w w0 (.tuple #[.agg #[.int .i64 x.frame.kind,.int .i64 x.frame.id,.int .i64 x.frame.status,.int .i64 x.frame.service,.int .u32 x.frame.jC,.bool x.gate.shut,.int .i64 x.gate.all,.int .i64 x.gate.os],.int .i64 0]) (gG r {s with items:=xs}::l):=by
 have h2:=h.alloc2 (EG 0 0 0 0 0 false 0 0) (EG 0 0 0 0 0 false 0 0)
 have hn:s.items.length=xs.length+1:=by simp[hs]
 have hd:((xs.length:Int)+1==0)=false:=by simp;omega
 have e9:(xs.length:Int)+1-1=xs.length:=by omega
 have e12:(xs.length:Int)<(xs.length:Int)+1:=by omega
 have e5:(s.items.map jI).flatten.take (xs.length*8)=(xs.map jI).flatten:=by
  have e6:(xs.map jI).flatten.length=xs.length*8:=by
   have:=jW (sl:=xs.map jI) (size:=8) (by intro y hy;obtain⟨q,_,rfl⟩:=List.mem_map.1 hy;rfl)
   simpa using this
  rw[hs,List.map_append,List.flatten_append,←e6,List.take_left']
  rfl
 go_enter func91,ntmps91
 go_wp2_with (go_at_call 76;refine In.Qa h2 ?_;clear h2;intro w2 h2;refine bW (uT h2.pl) ?_;obtain⟨v,high,ha,h1⟩:=ng (h2.ae p2);have ha2:=ha.2;have ha1:=ha.1;obtain⟨g,cap,rfl,hgc⟩:∃g cap,v= .slice (some ⟨g,0,none⟩) s.items.length cap∧s.items.length≤cap:=(by
  rcases(h1.ae p1).aU with⟨_,e,_⟩|⟨g,cap,ext,rfl,q,_⟩
  ·omega
  ·exact⟨_,_,rfl,q⟩);have fc_:=h1.facts)
 have hcell:=fun(j:Nat) (u:Value) (hu:(jI x)[j]? =some u)=>(h1.ae p1).bT (sl:=s.items.map jI) (i:=xs.length) (x:=jI x) (by intro y hy;obtain⟨q,_,rfl⟩:=List.mem_map.1 hy;rfl) (by simp[hs]) j hu
 have hc0:w2.cell? ⟨g,xs.length*8,none⟩=some (.int .i64 x.frame.kind):=hcell 0 _ rfl
 have hc1:w2.cell? ⟨g,xs.length*8+1,none⟩=some (.int .i64 x.frame.id):=hcell 1 _ rfl
 have hc2:w2.cell? ⟨g,xs.length*8+2,none⟩=some (.int .i64 x.frame.status):=hcell 2 _ rfl
 have hc3:w2.cell? ⟨g,xs.length*8+3,none⟩=some (.int .i64 x.frame.service):=hcell 3 _ rfl
 have hc4:w2.cell? ⟨g,xs.length*8+4,none⟩=some (.int .u32 x.frame.jC):=hcell 4 _ rfl
 have hc5:w2.cell? ⟨g,xs.length*8+5,none⟩=some (.bool x.gate.shut):=hcell 5 _ rfl
 have hc6:w2.cell? ⟨g,xs.length*8+6,none⟩=some (.int .i64 x.gate.all):=hcell 6 _ rfl
 have AY:w2.cell? ⟨g,xs.length*8+7,none⟩=some (.int .i64 x.gate.os):=hcell 7 _ rfl
 clear hcell h h2
 generalize w.heap.size=q at*
 have e13:(xs.length:Int)≤(cap:Int):=by omega
 have e14:¬cap=0:=by omega
 have e15:(0:Int)≤(xs.length:Int):=by omega
 have hrl:=h1.lt
 have hgl:g<w2.heap.size:=by
  rcases(h1.ae p1).aU with⟨e,_⟩|⟨g',cap',ext,e,_,_,_,h1g⟩
  ·cases e
  ·cases e
   exact h1g.lt
 have h4:=((h1.ae p1).NG (k:=xs.length) (by omega)).ae p1
 rw[e5]at h4
 have hS0:∀b,b<w2.heap.size→∀o,w2.drew.cell? ⟨b,o,none⟩=w2.cell? ⟨b,o,none⟩:=fun _ _ _=>rfl
 refine rgS (fun w'=>∀b,b<w2.heap.size→∀o,w'.cell? ⟨b,o,none⟩=w2.cell? ⟨b,o,none⟩) ⟨[12],[13]⟩ [.c 0 0,.c 0 1,.c 0 2,.c 2 3,.c 0 4,.c 0 5,.c 0 6,.c 2 7,.c 0 8,.c 0 9,.c 0 10,.c 2 11,.e 12,.e 13] ?_
 refine cS_ ?_;intro K hK
 go_wp2_with fail
 refine hK _ _ (by intro b hb o;first|rfl|exact DZ hb _ _) ?_
 refine bG rfl rfl fun K hK=>?_
 go_wp2_with fail
 try refine aS ?_
 have h3:=(h4.alloc (EG x.frame.kind x.frame.id x.frame.status x.frame.service x.frame.jC x.gate.shut x.gate.all x.gate.os)).drew
 refine In.abs h3 ?_
 clear h3 hS0 hrl hgl h4 h1
 generalize w2.heap.size=p at*
 intro w3 h3
 have fc_:=h3.facts
 go_wp2_with fail
 refine rg ⟨[],[14]⟩ [.c 0 0,.c 0 1,.c 0 2,.c 0 3,.c 1 4,.c 0 5,.c 0 6,.c 0 7,.c 1 8,.c 0 9,.c 0 10,.c 0 11,.c 0 12,.c 0 13,.e 14] ?_
 refine rG ?_;intro K hK
 go_wp2_with fail
 try refine aS ?_
 go_upto_region 8 with(fail)
 have h5:In w0 _ (pts r (nz s.depth (.slice (some ⟨g,0,none⟩) xs.length cap) high)::_):=((h3.ae p1).drew).setCell (off:=2) (.slice (some ⟨g,0,none⟩) xs.length cap)
 refine In.abs h5 ?_
 clear h5 h3
 intro w5 h5
 have fc_:=h5.facts
 go_wp2_with fail
 have h7:=(h5.ae p4).fill [.int .i64 x.frame.kind,.int .i64 x.frame.id,.int .i64 x.frame.status,.int .i64 x.frame.service,.int .u32 x.frame.jC,.bool x.gate.shut,.int .i64 x.gate.all,.int .i64 x.gate.os] rfl
 simp only[dm]at h7
 refine In.abs h7 ?_
 clear h7
 intro w7 h7
 have hc:=h7.cells
 refine bodyPost_ret (v:= .tuple #[.agg #[.int .i64 x.frame.kind,.int .i64 x.frame.id,.int .i64 x.frame.status,.int .i64 x.frame.service,.int .u32 x.frame.jC,.bool x.gate.shut,.int .i64 x.gate.all,.int .i64 x.gate.os],.int .i64 0]) (by simp[results,results91,go_sem,hc]) rfl ?_
 exact⟨rfl,(uM (s:={s with items:=xs}) ⟨ha.1,by simp;omega⟩ (h7.s))⟩
theorem VD (h:In w0 w (gG r s::l)):
 Calls prog 311 #[r,.int .i64 0] w fun e w'=>∃u,e= .returned (.tuple #[u,.int .i64 0])∧In w0 w' (gG r {s with items:= []}::l):=by
 have hal:=uT h
 obtain⟨v,high,ha,h1⟩:=ng h
 obtain⟨ao,cap,rfl⟩:∃ao cap,v= .slice ao s.items.length cap:=by
  rcases(h1.ae p1).aU with⟨rfl,e,_⟩|⟨g,cap,ext,rfl,_⟩
  ·exact⟨none,0,by rw[e]⟩
  ·exact⟨_,_,rfl⟩
 have fc_:=h1.facts
 clear h1
 go_enter func311,ntmps311
 go_wp2_with (go_at_call 76;refine bW hal ?_)
 clear hal
 go_loopw [6] (fun u wr=>∃(xs:List oV) (m:Nat) (cs:List Value),m+xs.length=s.items.length∧
  In w0 wr (Row 102 8 u m cs::gG r {s with items:=xs}::l))
  (fun u _=>match u with| .slice _ n _=>s.items.length-n|_=>0)
 case atStart=>exact⟨s.items,0, [],by omega,h.dh _ _⟩
 case round=>
  obtain⟨xs,m,cs,hm,hw⟩:=hrel
  clear h
  obtain⟨ao6,cap6,rfl⟩:∃ao cap,u6= .slice ao m cap:=by
   rcases hw.aU with⟨rfl,e,_⟩|⟨g,cap,ext,rfl,_⟩
   ·exact⟨none,0,by rw[e]⟩
   ·exact⟨_,_,rfl⟩
  obtain⟨v2,EM,ha2,h2⟩:=ng (hw.ae p1)
  simp only at ha2 h2
  obtain⟨rE,cap2,rfl⟩:∃ao cap,v2= .slice ao xs.length cap:=by
   rcases(h2.ae p1).aU with⟨rfl,e,_⟩|⟨g,cap,ext,rfl,_⟩
   ·exact⟨none,0,by rw[e]⟩
   ·exact⟨_,_,rfl⟩
  have fc_:=h2.facts
  clear h2
  rcases List.eq_nil_or_concat xs with rfl|⟨ys,y,rfl⟩
  ·go_wp2_with fail
   go_ret2
   exact⟨_,rfl,hw.drop⟩
  ·rw[List.concat_eq_append]at*
   have hp:=Bq (hw.ae p1) (xs:=ys) (x:=y) rfl
   have hlen:(ys++ [y]).length=ys.length+1:=by simp
   go_wp2_with (first|(go_at_call 91;refine hp.mono ?_;clear hp;rintro _ w3 ⟨rfl,h3⟩)|(with_reducible apply bH))
   unfold Stop
   have h4:=h3.alloc2 (EG y.frame.kind y.frame.id y.frame.status y.frame.service y.frame.jC y.gate.shut y.gate.all y.gate.os) (.cells (jI y).toArray 102)
   refine aZ abf (h4.s (l:=pts (w3.heap.size+1) (.cells (jI y).toArray 102)::Row 102 8 (.slice ao6 m cap6) m cs::gG r {s with items:=ys}::l)) (by rfl) (by rfl) rfl (Gx y) (by omega) ?_
   intro u' w4 h5
   obtain⟨Lm,yA,rfl⟩:∃ao cap,u'= .slice ao (m+1) cap:=by
    rcases h5.aU with⟨rfl,e,_⟩|⟨g,cap,ext,rfl,_⟩
    ·omega
    ·exact⟨_,_,rfl⟩
   go_wp2_with fail
   go_roundw
   case rel=>exact⟨ys,m+1,_,by simp at hm;omega,h5⟩
   case measure=>simp at hm⊢;omega
end
end Go.Proofs.YtajgpcnlehinbaaGreat
