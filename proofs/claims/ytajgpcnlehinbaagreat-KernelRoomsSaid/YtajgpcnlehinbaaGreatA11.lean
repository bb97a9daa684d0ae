/- Part of a proof. -/
import Derived.OwnWalkIn
import Derived.TacticsInMore
import Derived.Deep.CutRange
import Derived.KernelRfl
import Derived.Test.YtajgpcnlehinbaaGreatA04
import Derived.Test.YtajgpcnlehinbaaGreatA05
import Derived.Test.YtajgpcnlehinbaaGreatA07
namespace Go.Proofs.YtajgpcnlehinbaaGreat
open Tryz Go.RowKit
set_option maxRecDepth 100000
set_option maxHeartbeats 60000000
set_option linter.all false
def zu (x:EvS):List Value:=[.int .u32 x.mask,.int .u32 x.set,.int .u32 x.waits,.bool x.waiting]
def qQ (s:List EvS) (rest:List Value):Obj:= .cells (([.bool true,.int .i64 s.length]:List Value)++(s.map zu).flatten++rest).toArray 398 (0,0)
def sU (r:Nat) (s:List EvS):SL:=ex fun rest=>bQ [AQ (s.length≤256∧rest.length=(256-s.length)*4∧∀u∈rest,u.oneCell'=true),pts r (qQ s rest)]
theorem qW {w0 w:World} {l:List SL} {r:Nat} {s:List EvS} (h:In w0 w (sU r s::l)):
 ∃rest:List Value,(s.length≤256∧rest.length=(256-s.length)*4∧∀u∈rest,u.oneCell'=true)∧In w0 w (pts r (qQ s rest)::l):=by
 obtain⟨v,h⟩:=In.aY.1 h
 obtain⟨hp,h⟩:=In.dw.1 (In.bn.1 h)
 exact⟨v,hp,h⟩
theorem o8 {w0 w:World} {l:List SL} {r:Nat} {s:List EvS} {rest:List Value} (hp:s.length≤256∧rest.length=(256-s.length)*4∧∀u∈rest,u.oneCell'=true)
 (h:In w0 w (pts r (qQ s rest)::l)):In w0 w (sU r s::l):=
 In.aY.2 ⟨rest,In.bn.2 (In.dw.2 ⟨hp,h⟩)⟩
section
variable {w0 w:World} {l:List SL} {r:Nat} {s:List EvS}
theorem Gy:∀y∈s.map zu,y.length=4:=by intro y hy;obtain⟨q,_,rfl⟩:=List.mem_map.1 hy;rfl
theorem kW {rest:List Value} {i:Nat} {x:EvS} (h:In w0 w (pts r (qQ s rest)::l)) (hx:s[i]? =some x) (j:Nat) {u:Value} (hu:(zu x)[j]? =some u):
 w.cell? ⟨r,2+i*4+j,none⟩=some u:=
 In.WU (pre:=[.bool true,.int .i64 s.length]) h Gy (by simp[hx]) hu
theorem nX {rest:List Value} {i j:Nat} {x y:EvS} {u:Value} (h:In w0 w (pts r (qQ s rest)::l)) (hx:s[i]? =some x) (hj:j<4) (hy:(zu x).set j u=zu y):
 In w0 (w.setCell ⟨r,2+i*4+j,none⟩ u) (pts r (qQ (s.set i y) rest)::l):=by
 have h1:=In.Uk (i:=i) (pre:=[.bool true,.int .i64 s.length]) (u:=u) h Gy (x:=zu x) (by simp[hx]) hj
 rw[hy,←List.map_set]at h1
 unfold qQ
 rw[List.length_set]
 exact h1
theorem aef {rest:List Value} (h:In w0 w (pts r (qQ s rest)::l)):w.cell? ⟨r,1,none⟩=some (.int .i64 s.length):=by
 unfold qQ at h
 rw[List.append_assoc]at h
 exact h.MN rfl
theorem Dn {i:Nat} {x:EvS} (h:In w0 w (sU r s::l)) (hx:s[i]? =some x):
 Calls prog 253 #[r,.int .i64 i] w fun e w'=>
  e= .returned (if x.mask=0 then .tuple #[.pointer none,.int .i64 1] else .tuple #[.pointer (some ⟨r,2+i*4,none⟩),.int .i64 0])∧w=w':=by
 obtain⟨rest,hp,h1⟩:=qW h
 have hn:=aef h1
 have hi:i<s.length:=(List.getElem?_eq_some_iff.1 hx).1
 have hc:w.cell? ⟨r,2+i*4,none⟩=some (.int .u32 x.mask):=kW h1 hx 0 rfl
 have hi2:¬((s.length:Int)≤(i:Int)):=by omega
 have hi3:¬((i:Int)<0):=by omega
 have hi4:i<256:=by omega
 clear hx
 go_enter func253,ntmps253
 by_cases h0:x.mask=0
 ·go_wp2_with fail
  go_ret2
  exact⟨by simp[h0],rfl⟩
 ·go_wp2_with fail
  go_ret2
  exact⟨by simp[h0],rfl⟩
theorem J4 {i:Nat} {x:EvS} (h:In w0 w (sU r s::l)) (hx:s[i]? =some x):
 Calls prog 110 #[r,.int .i64 i] w fun e w'=>
  e= .returned (if x.mask=0 then .tuple #[.int .u32 0,.int .i64 1] else .tuple #[.int .u32 x.set,.int .i64 0])∧w=w':=by
 have ho:=Dn h hx
 obtain⟨rest,hp,h1⟩:=qW h
 have hc:w.cell? ⟨r,2+i*4+1,none⟩=some (.int .u32 x.set):=kW h1 hx 1 rfl
 clear hx
 go_enter func110,ntmps110
 by_cases h0:x.mask=0
 ·rw[if_pos h0]at ho
  go_wp2_with (go_at_call 253;refine bW ho ?_)
  go_ret2
  exact⟨by simp[h0],rfl⟩
 ·rw[if_neg h0]at ho
  go_wp2_with (go_at_call 253;refine bW ho ?_)
  go_ret2
  exact⟨by simp[h0],rfl⟩
theorem Ws {i:Nat} {x:EvS} (h:In w0 w (sU r s::l)) (hx:s[i]? =some x):
 Calls prog 114 #[r,.int .i64 i] w fun e w'=>
  e= .returned (if x.mask=0 then .int .u32 0 else .int .u32 x.waits)∧w=w':=by
 have ho:=Dn h hx
 obtain⟨rest,hp,h1⟩:=qW h
 have hc:w.cell? ⟨r,2+i*4+2,none⟩=some (.int .u32 x.waits):=kW h1 hx 2 rfl
 clear hx
 go_enter func114,ntmps114
 by_cases h0:x.mask=0
 ·rw[if_pos h0]at ho
  go_wp2_with (go_at_call 253;refine bW ho ?_)
  go_ret
  exact⟨by simp[h0],rfl⟩
 ·rw[if_neg h0]at ho
  go_wp2_with (go_at_call 253;refine bW ho ?_)
  go_ret
  exact⟨by simp[h0],rfl⟩
def EvS.put (x:EvS) (m:Int):EvS:=
 let y:={x with set:=bits .or .u32 x.set m}
 if x.waiting=false∨bits .and .u32 y.set x.waits=0 then y else {y with waiting:=false,waits:=0}
def EvS.woken (x:EvS) (m:Int):Bool:= !(x.waiting=false∨bits .and .u32 (bits .or .u32 x.set m) x.waits=0)
theorem XM {i:Nat} {x:EvS} {m:Int} (h:In w0 w (sU r s::l)) (hx:s[i]? =some x) (h0:¬x.mask=0):
 Calls prog 337 #[r,.int .i64 i,.int .u32 m] w fun e w'=>
  e= .returned (.tuple #[.bool (x.woken m),.int .i64 0])∧In w0 w' (sU r (s.set i (x.put m))::l):=by
 have ho:=Dn h hx
 rw[if_neg h0]at ho
 obtain⟨rest,hp,h1⟩:=qW h
 have hc:w.cell? ⟨r,2+i*4+1,none⟩=some (.int .u32 x.set):=kW h1 hx 1 rfl
 have hfz:=h1.free
 have hi:i<s.length:=(List.getElem?_eq_some_iff.1 hx).1
 go_enter func337,ntmps337
 go_wp2_with (go_at_call 253;refine bW ho ?_)
 have h2:=nX h1 hx (j:=1) (u:= .int .u32 (bits .or .u32 x.set m)) (y:={x with set:=bits .or .u32 x.set m}) (by omega) rfl
 have hx2:(s.set i {x with set:=bits .or .u32 x.set m})[i]? =some {x with set:=bits .or .u32 x.set m}:=by simp[hi]
 refine In.abs h2 ?_
 clear h2 h1 hc hfz ho h
 intro w2 h2
 generalize hq:bits .or .u32 x.set m=q at*
 have hc1:w2.cell? ⟨r,2+i*4+1,none⟩=some (.int .u32 q):=kW h2 hx2 1 rfl
 have hc2:w2.cell? ⟨r,2+i*4+2,none⟩=some (.int .u32 x.waits):=kW h2 hx2 2 rfl
 have hc3:w2.cell? ⟨r,2+i*4+3,none⟩=some (.bool x.waiting):=kW h2 hx2 3 rfl
 have hfz:=h2.free
 clear hx
 cases hw:x.waiting with
 |false=>
  rw[hw]at hc3
  have e1:x.woken m=false:=by simp[EvS.woken,hw]
  have e2:x.put m= {x with set:=q}:=by simp[EvS.put,hw,hq]
  clear hx2 hw
  refine rg ⟨[], []⟩ [.c 0 0,.c 0 1,.c 0 2,.c 1 3,.c 0 4,.c 0 5,.c 0 6,.c 0 7,.c 0 8,.c 1 9,.c 0 10,.c 0 11,.c 0 12,.c 1 13,.c 0 14,.c 0 15,.c 0 16] ?_
  refine lK ?_
  go_wp2_with fail
  go_ret2
  exact⟨by rw[e1];rfl,by rw[e2];exact o8 (by simpa using hp) h2.drew⟩
 |true=>
  rw[hw]at hc3
  by_cases hb:bits .and .u32 q x.waits=0
  ·have e1:x.woken m=false:=by simp[EvS.woken,hw,hq,hb]
   have e2:x.put m= {x with set:=q}:=by simp[EvS.put,hw,hq,hb]
   clear hx2 hw
   refine rg ⟨[], []⟩ [.c 0 0,.c 0 1,.c 0 2,.c 1 3,.c 0 4,.c 0 5,.c 0 6,.c 0 7,.c 0 8,.c 1 9,.c 0 10,.c 0 11,.c 0 12,.c 1 13,.c 0 14,.c 0 15,.c 0 16] ?_
   refine lK ?_
   go_wp2_with fail
   go_ret2
   exact⟨by rw[e1];rfl,by rw[e2];exact o8 (by simpa using hp) h2.drew⟩
  ·have e1:x.woken m=true:=by simp[EvS.woken,hw,hq,hb]
   have e2:x.put m= {x with set:=q,waiting:=false,waits:=0}:=by simp[EvS.put,hw,hq,hb]
   have h3:=nX h2.drew hx2 (j:=3) (u:= .bool false) (y:={x with set:=q,waiting:=false}) (by omega) rfl
   have h4:=nX h3 (i:=i) (x:={x with set:=q,waiting:=false}) (by simp[hi]) (j:=2) (u:= .int .u32 0) (y:={x with set:=q,waiting:=false,waits:=0}) (by omega) rfl
   rw[List.set_set,List.set_set]at h4
   clear hx2 hw h3
   refine rg ⟨[], []⟩ [.c 0 0,.c 0 1,.c 0 2,.c 1 3,.c 0 4,.c 0 5,.c 0 6,.c 0 7,.c 0 8,.c 1 9,.c 0 10,.c 0 11,.c 0 12,.c 1 13,.c 0 14,.c 0 15,.c 0 16] ?_
   refine lK ?_
   go_wp2_with fail
   go_ret2
   exact⟨by rw[e1];rfl,by rw[e2];exact o8 (by simpa using hp) h4⟩
theorem WL {i:Nat} {x:EvS} {m:Int} (h:In w0 w (sU r s::l)) (hx:s[i]? =some x) (h0:¬x.mask=0):
 Calls prog 385 #[r,.int .i64 i,.int .u32 m] w fun e w'=>
  e= .returned (.int .i64 0)∧In w0 w' (sU r (s.set i {x with set:=bits .andNot .u32 x.set m})::l):=by
 have ho:=Dn h hx
 rw[if_neg h0]at ho
 obtain⟨rest,hp,h1⟩:=qW h
 have hc:w.cell? ⟨r,2+i*4+1,none⟩=some (.int .u32 x.set):=kW h1 hx 1 rfl
 have hfz:=h1.free
 have h2:=nX h1 hx (j:=1) (u:= .int .u32 (bits .andNot .u32 x.set m)) (y:={x with set:=bits .andNot .u32 x.set m}) (by omega) rfl
 clear hx
 go_enter func385,ntmps385
 go_wp2_with (go_at_call 253;refine bW ho ?_)
 go_ret
 exact⟨rfl,o8 (by simpa using hp) h2⟩
theorem Ti {i:Nat} {x:EvS} {m:Int} (h:In w0 w (sU r s::l)) (hx:s[i]? =some x) (h0:x.mask=0):
 Calls prog 385 #[r,.int .i64 i,.int .u32 m] w fun e w'=>
  e= .returned (.int .i64 1)∧w=w':=by
 have ho:=Dn h hx
 rw[if_pos h0]at ho
 clear hx
 go_enter func385,ntmps385
 go_wp2_with (go_at_call 253;refine bW ho ?_)
 go_ret
 exact⟨rfl,rfl⟩
def EvS.fresh (x:EvS):EvS:=⟨x.mask,0,0,false⟩
theorem EvS.PM {x:EvS} (a:x.set=0) (b:x.waits=0) (c:x.waiting=false):x.fresh=x:=by
 obtain⟨q1,q2,q3,q4⟩:=x
 simp only at a b c
 subst a b c
 rfl
theorem SN {i:Nat} {x:EvS} (h:In w0 w (sU r s::l)) (hx:s[i]? =some x) (h0:x.mask=0):
 Calls prog 208 #[r,.int .i64 i] w fun e w'=>
  e= .returned (.int .i64 1)∧In w0 w' (sU r s::l):=by
 have ho:=Dn h hx
 rw[if_pos h0]at ho
 clear hx
 go_enter func208,ntmps208
 go_wp2_with (go_at_call 253;refine bW ho ?_)
 refine rg ⟨[], []⟩ [.c 0 0,.c 0 1,.c 0 2,.c 0 3,.c 0 4,.c 1 5,.c 0 6,.c 0 7,.c 0 8,.c 1 9,.c 0 10,.c 0 11,.c 0 12] ?_
 refine lK ?_
 go_wp2_with fail
 go_ret
 exact⟨rfl,h.drew⟩
theorem Ov {i:Nat} {x:EvS} (h:In w0 w (sU r s::l)) (hx:s[i]? =some x) (h0:¬x.mask=0):
 Calls prog 208 #[r,.int .i64 i] w fun e w'=>
  e= .returned (.int .i64 0)∧In w0 w' (sU r (s.set i x.fresh)::l):=by
 have ho:=Dn h hx
 rw[if_neg h0]at ho
 obtain⟨rest,hp,h1⟩:=qW h
 have hc0:w.cell? ⟨r,2+i*4,none⟩=some (.int .u32 x.mask):=kW h1 hx 0 rfl
 have hc1:w.cell? ⟨r,2+i*4+1,none⟩=some (.int .u32 x.set):=kW h1 hx 1 rfl
 have hc2:w.cell? ⟨r,2+i*4+2,none⟩=some (.int .u32 x.waits):=kW h1 hx 2 rfl
 have hc3:w.cell? ⟨r,2+i*4+3,none⟩=some (.bool x.waiting):=kW h1 hx 3 rfl
 have hfz:=h1.free
 have hi:i<s.length:=(List.getElem?_eq_some_iff.1 hx).1
 go_enter func208,ntmps208
 go_wp2_with (go_at_call 253;refine bW ho ?_)
 have h2:=nX h1.drew hx (j:=0) (u:= .int .u32 x.mask) (y:=x) (by omega) rfl
 have h3:=nX h2 (i:=i) (x:=x) (by simp[hi]) (j:=1) (u:= .int .u32 0) (y:={x with set:=0}) (by omega) rfl
 have h4:=nX h3 (i:=i) (x:={x with set:=0}) (by simp[hi]) (j:=2) (u:= .int .u32 0) (y:={x with set:=0,waits:=0}) (by omega) rfl
 have h5:=nX h4 (i:=i) (x:={x with set:=0,waits:=0}) (by simp[hi]) (j:=3) (u:= .bool false) (y:={x with set:=0,waits:=0,waiting:=false}) (by omega) rfl
 rw[List.set_set,List.set_set,List.set_set]at h5
 have e0:({x with set:=0,waits:=0,waiting:=false}:EvS)=x.fresh:=rfl
 clear h2 h3 h4
 have e1:x.set=0→x.waits=0→x.waiting=false→s.set i x.fresh=s:=by
  intro a b c
  have:x.fresh=x:=EvS.PM a b c
  rw[this]
  obtain⟨hl,hx'⟩:=List.getElem?_eq_some_iff.1 hx
  rw[←hx']
  exact List.set_getElem_self hl
 clear hx
 by_cases q1:x.set=0
 ·by_cases q2:x.waits=0
  ·cases q3:x.waiting with
   |false=>
    have e2:=e1 q1 q2 q3
    rw[q3]at hc3
    clear e1 h5 e0
    refine rg ⟨[], []⟩ [.c 0 0,.c 0 1,.c 0 2,.c 0 3,.c 0 4,.c 1 5,.c 0 6,.c 0 7,.c 0 8,.c 1 9,.c 0 10,.c 0 11,.c 0 12] ?_
    refine lK ?_
    go_wp2_with fail
    go_ret
    exact⟨rfl,by rw[e2];exact h.drew⟩
   |true=>
    rw[q3]at hc3
    clear e1
    refine rg ⟨[], []⟩ [.c 0 0,.c 0 1,.c 0 2,.c 0 3,.c 0 4,.c 1 5,.c 0 6,.c 0 7,.c 0 8,.c 1 9,.c 0 10,.c 0 11,.c 0 12] ?_
    refine lK ?_
    go_wp2_with fail
    go_ret
    exact⟨rfl,by rw[←e0];exact o8 (by simpa using hp) h5⟩
  ·clear e1
   refine rg ⟨[], []⟩ [.c 0 0,.c 0 1,.c 0 2,.c 0 3,.c 0 4,.c 1 5,.c 0 6,.c 0 7,.c 0 8,.c 1 9,.c 0 10,.c 0 11,.c 0 12] ?_
   refine lK ?_
   go_wp2_with fail
   go_ret
   exact⟨rfl,by rw[←e0];exact o8 (by simpa using hp) h5⟩
 ·clear e1
  refine rg ⟨[], []⟩ [.c 0 0,.c 0 1,.c 0 2,.c 0 3,.c 0 4,.c 1 5,.c 0 6,.c 0 7,.c 0 8,.c 1 9,.c 0 10,.c 0 11,.c 0 12] ?_
  refine lK ?_
  go_wp2_with fail
  go_ret
  exact⟨rfl,by rw[←e0];exact o8 (by simpa using hp) h5⟩
theorem LW {i:Nat} {x:EvS} {m:Int} (h:In w0 w (sU r s::l)) (hx:s[i]? =some x) (h0:¬x.mask=0) (hw:x.waiting=false) (hb:¬bits .and .u32 x.set m=0):
 Calls prog 399 #[r,.int .i64 i,.int .u32 m] w fun e w'=>
  e= .returned (.tuple #[.bool false,.int .i64 0])∧w=w':=by
 have ho:=Dn h hx
 rw[if_neg h0]at ho
 obtain⟨rest,hp,h1⟩:=qW h
 have hc3:w.cell? ⟨r,2+i*4+3,none⟩=some (.bool false):=by rw[←hw];exact kW h1 hx 3 rfl
 have hc1:w.cell? ⟨r,2+i*4+1,none⟩=some (.int .u32 x.set):=kW h1 hx 1 rfl
 clear hx hw
 go_enter func399,ntmps399
 go_wp2_with (go_at_call 253;refine bW ho ?_)
 go_ret2
 exact⟨rfl,rfl⟩
theorem Z7 {i:Nat} {x:EvS} {m:Int} (h:In w0 w (sU r s::l)) (hx:s[i]? =some x) (h0:¬x.mask=0) (hw:x.waiting=false) (hb:bits .and .u32 x.set m=0):
 Calls prog 399 #[r,.int .i64 i,.int .u32 m] w fun e w'=>
  e= .returned (.tuple #[.bool true,.int .i64 0])∧In w0 w' (sU r (s.set i {x with waiting:=true,waits:=m})::l):=by
 have ho:=Dn h hx
 rw[if_neg h0]at ho
 obtain⟨rest,hp,h1⟩:=qW h
 have hi:i<s.length:=(List.getElem?_eq_some_iff.1 hx).1
 have hc3:w.cell? ⟨r,2+i*4+3,none⟩=some (.bool false):=by rw[←hw];exact kW h1 hx 3 rfl
 have hc2:w.cell? ⟨r,2+i*4+2,none⟩=some (.int .u32 x.waits):=kW h1 hx 2 rfl
 have hc1:w.cell? ⟨r,2+i*4+1,none⟩=some (.int .u32 x.set):=kW h1 hx 1 rfl
 have hfz:=h1.free
 have h3:=nX h1 hx (j:=3) (u:= .bool true) (y:={x with waiting:=true}) (by omega) rfl
 have h4:=nX h3 (i:=i) (x:={x with waiting:=true}) (by simp[hi]) (j:=2) (u:= .int .u32 m) (y:={x with waiting:=true,waits:=m}) (by omega) rfl
 rw[List.set_set]at h4
 clear hx hw h3
 go_enter func399,ntmps399
 go_wp2_with (go_at_call 253;refine bW ho ?_)
 go_ret2
 exact⟨rfl,o8 (by simpa using hp) h4⟩
theorem Xw (n:Int):(zeroCells398.setIfInBounds 0 (.bool true)).setIfInBounds 1 (.int .i64 n)=
 (([.bool true,.int .i64 n]:List Value)++(List.replicate 256 ([.int .u32 0,.int .u32 0,.int .u32 0,.bool false]:List Value)).flatten).toArray:=by
 kernel_rfl
theorem aba {v:Value} {masks:List Int} (h:In w0 w (Row 38 1 v masks.length (masks.map fun m=> .int .u32 m)::l)) (hn:masks.length≤256):
 Calls prog 299 #[v] w fun e w'=>∃b,e= .returned (.tuple #[.pointer (some ⟨b,0,none⟩),.int .i64 0])∧
  In w0 w' (sU b (masks.map fun m=>⟨m,0,0,false⟩)::Row 38 1 v masks.length (masks.map fun m=> .int .u32 m)::l):=by
 obtain⟨ao,cap,rfl⟩:∃ao cap,v= .slice ao masks.length cap:=by
  rcases h.aU with⟨rfl,e,_⟩|⟨g,cap,ext,rfl,_⟩
  ·exact⟨none,0,by rw[e]⟩
  ·exact⟨_,_,rfl⟩
 have hn2:¬((256:Int)<(masks.length:Int)):=by omega
 have hC:=Xw masks.length
 have hC2:In w0 (w.alloc (.cells ((zeroCells398.setIfInBounds 0 (.bool true)).setIfInBounds 1 (.int .i64 masks.length)) 398)) (sU w.heap.size (List.replicate masks.length ⟨0,0,0,false⟩)::Row 38 1 (.slice ao masks.length cap) masks.length (masks.map fun m=> .int .u32 m)::l):=by
  refine o8 (rest:=(List.replicate (256-masks.length) ([.int .u32 0,.int .u32 0,.int .u32 0,.bool false]:List Value)).flatten) ⟨by simpa using hn,by simp,?_⟩ ?_
  ·intro u hu
   obtain⟨x,hx,hu⟩:=List.mem_flatten.1 hu
   rw[(List.mem_replicate.1 hx).2]at hu
   simp at hu
   rcases hu with rfl|rfl<;>rfl
  ·have e:qQ (List.replicate masks.length ⟨0,0,0,false⟩) (List.replicate (256-masks.length) ([.int .u32 0,.int .u32 0,.int .u32 0,.bool false]:List Value)).flatten= .cells ((zeroCells398.setIfInBounds 0 (.bool true)).setIfInBounds 1 (.int .i64 masks.length)) 398:=by
    unfold qQ
    rw[hC,List.map_replicate,List.length_replicate,List.append_assoc,←List.flatten_append]
    have e2:List.replicate masks.length (zu ⟨0,0,0,false⟩)++List.replicate (256-masks.length) ([.int .u32 0,.int .u32 0,.int .u32 0,.bool false]:List Value)=List.replicate 256 ([.int .u32 0,.int .u32 0,.int .u32 0,.bool false]:List Value):=by
     have e3:zu ⟨0,0,0,false⟩=([.int .u32 0,.int .u32 0,.int .u32 0,.bool false]:List Value):=rfl
     rw[e3,List.replicate_append_replicate]
     congr 1
     omega
    rw[e2]
   rw[e]
   exact h.alloc _
 go_enter func299,ntmps299
 clear hC
 go_wp2_with fail
 refine In.abs hC2 ?_
 clear hC2 h
 generalize w.heap.size=b
 intro w2 h2
 go_loopw [5,6,16] (fun _ _ c wr=>∃k:Nat,k≤masks.length∧c= .int .i64 k∧
  In w0 wr (sU b ((masks.take k).map (fun m=>(⟨m,0,0,false⟩:EvS))++List.replicate (masks.length-k) ⟨0,0,0,false⟩)::Row 38 1 (.slice ao masks.length cap) masks.length (masks.map fun m=> .int .u32 m)::l))
  (fun _ _ c _=>masks.length-(intOf c).toNat)
 case atStart=>exact⟨0,Nat.zero_le _,rfl,by simpa using h2⟩
 case round=>
  obtain⟨k,hk,rfl,hw⟩:=hrel
  clear h2
  by_cases hlt:k<masks.length
  ·rcases(hw.ae p1).aU with⟨_,e,_⟩|⟨g,cap2,ext,e,_⟩
   ·omega
   cases e
   have hm:wr.cell? ⟨g,k,none⟩=some (.int .u32 masks[k]):=(hw.ae p1).gI (by simp[hlt])
   obtain⟨rest,hp,h3⟩:=qW hw
   have hx:((masks.take k).map (fun m=>(⟨m,0,0,false⟩:EvS))++List.replicate (masks.length-k) (⟨0,0,0,false⟩:EvS))[k]? =some ⟨0,0,0,false⟩:=by
    rw[List.getElem?_append_right (by simp;omega)]
    have e:k-((masks.take k).map (fun m=>(⟨m,0,0,false⟩:EvS))).length=0:=by simp;omega
    rw[e,List.getElem?_replicate,if_pos (by omega)]
   have hc:wr.cell? ⟨b,2+k*4,none⟩=some (.int .u32 0):=kW h3 hx 0 rfl
   have hfz:=h3.free
   have h4:=nX h3 hx (j:=0) (u:= .int .u32 masks[k]) (y:=⟨masks[k],0,0,false⟩) (by omega) rfl
   have e5:((masks.take k).map (fun m=>(⟨m,0,0,false⟩:EvS))++List.replicate (masks.length-k) (⟨0,0,0,false⟩:EvS)).set k (⟨masks[k],0,0,false⟩:EvS)=
    (masks.take (k+1)).map (fun m=>(⟨m,0,0,false⟩:EvS))++List.replicate (masks.length-(k+1)) (⟨0,0,0,false⟩:EvS):=by
    rw[List.set_append_right _ _ (by simp;omega),List.take_succ_eq_append_getElem hlt,List.map_append,List.append_assoc]
    have e:k-((masks.take k).map (fun m=>(⟨m,0,0,false⟩:EvS))).length=0:=by simp;omega
    have e':masks.length-k=masks.length-(k+1)+1:=by omega
    rw[e,e',List.replicate_succ,List.set_cons_zero]
    rfl
   have h6:=o8 (by simpa using hp) h4
   rw[e5]at h6
   have hk4:k<256:=by omega
   clear hx e5 h4 h3 hw
   generalize masks[k]=mk at*
   go_wp2_with fail
   go_roundw
   case rel=>exact⟨k+1,hlt,by go_num,h6⟩
   case measure=>simp[intOf]<;>omega
  ·have:k=masks.length:=by omega
   subst this
   rw[List.take_length,Nat.sub_self]at hw
   go_wp2_with fail
   go_ret2
   exact⟨_,rfl,by simpa using hw⟩
end
def kN (x:eY):List Value:=[.int .i64 x.limit,.bool x.extended,.int .i64 x.state,.int .i64 x.bI]
theorem JG (x:eY):∀u∈kN x,u.oneCell'=true:=by simp[kN,Value.oneCell']
def jS (v:Value) (running:Int):Obj:= .cells #[.bool true,v,.int .i64 running] 351 (0,0)
def nN (r:Nat) (s:wP):SL:=ex fun v=>bQ [AQ (s.ay.length≤256),pts r (jS v s.running),Row 348 4 v s.ay.length (s.ay.map kN).flatten]
theorem pg {w0 w:World} {l:List SL} {r:Nat} {s:wP} (h:In w0 w (nN r s::l)):
 ∃v,s.ay.length≤256∧In w0 w (pts r (jS v s.running)::Row 348 4 v s.ay.length (s.ay.map kN).flatten::l):=by
 obtain⟨v,h⟩:=In.aY.1 h
 obtain⟨hp,h⟩:=In.dw.1 (In.bn.1 h)
 exact⟨v,hp,h⟩
theorem tV {w0 w:World} {l:List SL} {r:Nat} {s:wP} {v:Value} (hp:s.ay.length≤256)
 (h:In w0 w (pts r (jS v s.running)::Row 348 4 v s.ay.length (s.ay.map kN).flatten::l)):In w0 w (nN r s::l):=
 In.aY.2 ⟨v,In.bn.2 (In.dw.2 ⟨hp,h⟩)⟩
theorem wG {w0 w:World} {l:List SL} {r i:Nat} {s:wP} {x:eY} (h:In w0 w (nN r s::l)) (hx:s.ay[i]? =some x):
 ∃g cap,s.ay.length≤256∧i<s.ay.length∧s.ay.length≤cap∧
  In w0 w (pts r (jS (.slice (some ⟨g,0,none⟩) s.ay.length cap) s.running)::Row 348 4 (.slice (some ⟨g,0,none⟩) s.ay.length cap) s.ay.length (s.ay.map kN).flatten::l):=by
 obtain⟨v,hp,h1⟩:=pg h
 have hi:=(List.getElem?_eq_some_iff.1 hx).1
 rcases(h1.ae p1).aU with⟨_,e,_⟩|⟨g,cap,ext,rfl,q1,_⟩
 ·omega
 ·exact⟨g,cap,hp,hi,q1,h1⟩
theorem jw {s:wP}:∀y∈s.ay.map kN,y.length=4:=by intro y hy;obtain⟨q,_,rfl⟩:=List.mem_map.1 hy;rfl
theorem TO:ig prog 349 348 4 32 (.agg #[.int .i64 0,.bool false,.int .i64 0,.int .i64 0]):=⟨underlying349,by kernel_rfl,rfl,by decide,by decide⟩
section
variable {w0 w:World} {l:List SL} {r:Nat} {s:wP}
theorem tq (h:In w0 w (nN r s::l)):
 Calls prog 256 #[r] w fun e w'=>e= .returned (.bool true)∧w=w':=by
 obtain⟨v,hp,h1⟩:=pg h
 have fc_:=h1.facts
 go_enter func256,ntmps256
 go_wp2_with fail
 go_ret
 exact⟨rfl,rfl⟩
theorem DN {i:Nat} (h:In w0 w (nN r s::l)) (hi:i<s.ay.length):
 Calls prog 252 #[r,.int .i64 i] w fun e w'=>e= .returned (.bool true)∧w=w':=by
 have hal:=tq h
 obtain⟨v,hp,h1⟩:=pg h
 obtain⟨ao,cap,rfl⟩:∃ao cap,v= .slice ao s.ay.length cap:=by
  rcases(h1.ae p1).aU with⟨rfl,e,_⟩|⟨g,cap,ext,rfl,_⟩
  ·exact⟨none,0,by rw[e]⟩
  ·exact⟨_,_,rfl⟩
 have fc_:=h1.facts
 have e1:(0:Int)≤(i:Int):=by omega
 have e2:(i:Int)<(s.ay.length:Int):=by omega
 go_enter func252,ntmps252
 go_wp2_with (go_at_call 256;refine bW hal ?_)
 go_ret
 exact⟨rfl,rfl⟩
theorem uY (h:In w0 w (nN r s::l)):
 Calls prog 117 #[r] w fun e w'=>e= .returned (.int .i64 s.running)∧w=w':=by
 have hal:=tq h
 obtain⟨v,hp,h1⟩:=pg h
 have fc_:=h1.facts
 go_enter func117,ntmps117
 go_wp2_with (go_at_call 256;refine bW hal ?_)
 go_ret
 exact⟨rfl,rfl⟩
theorem ET (h:In w0 w (nN r s::l)):
 Calls prog 421 #[r] w fun e w'=>e= .returned (.bool (decide (0≤s.running)))∧w=w':=by
 obtain⟨v,hp,h1⟩:=pg h
 have fc_:=h1.facts
 go_enter func421,ntmps421
 go_wp2_with fail
 go_ret
 exact⟨rfl,rfl⟩
theorem GR {i:Nat} {x:eY} (h:In w0 w (nN r s::l)) (hx:s.ay[i]? =some x):
 aW 109 #[r,.int .i64 i] w w0 (.tuple #[.int .i64 x.state,.int .i64 0]) (nN r s::l):=by
 obtain⟨g,cap,hp,hi,hc,h1⟩:=wG h hx
 have hh:=DN h hi
 have hc2:w.cell? ⟨g,i*4+2,none⟩=some (.int .i64 x.state):=(h1.ae p1).bT jw (x:=kN x) (by simp[hx]) 2 rfl
 have e2:(i:Int)<(s.ay.length:Int):=by omega
 have fc_:=h1.facts
 clear hx
 go_enter func109,ntmps109
 go_wp2_with (go_at_call 252;refine bW hh ?_)
 go_ret2
 exact⟨rfl,h⟩
theorem Un {i:Nat} {x:eY} (h:In w0 w (nN r s::l)) (hx:s.ay[i]? =some x):
 Calls prog 113 #[r,.int .i64 i] w fun e w'=>e= .returned (.int .i64 x.bI)∧w=w':=by
 obtain⟨g,cap,hp,hi,hc,h1⟩:=wG h hx
 have hh:=DN h hi
 have hc2:w.cell? ⟨g,i*4+3,none⟩=some (.int .i64 x.bI):=(h1.ae p1).bT jw (x:=kN x) (by simp[hx]) 3 rfl
 have e2:(i:Int)<(s.ay.length:Int):=by omega
 have fc_:=h1.facts
 clear hx
 go_enter func113,ntmps113
 go_wp2_with (go_at_call 252;refine bW hh ?_)
 go_ret
 exact⟨rfl,rfl⟩
def Dl:List (Int × Int):=[(3,2),(2,0),(0,2),(0,1),(1,2),(0,3)]
theorem V3 (h:In w0 w l):
 aW 412 #[] w w0 (.agg #[.int .i64 3,.int .i64 2,.int .i64 2,.int .i64 0,.int .i64 0,.int .i64 2,.int .i64 0,.int .i64 1,.int .i64 1,.int .i64 2,.int .i64 0,.int .i64 3]) l:=by
 have h1:=h.alloc (.cells #[.int .i64 0,.int .i64 0,.int .i64 0,.int .i64 0,.int .i64 0,.int .i64 0,.int .i64 0,.int .i64 0,.int .i64 0,.int .i64 0,.int .i64 0,.int .i64 0] 467)
 go_enter func412,ntmps412
 go_upto_region 1 with(fail)
 refine In.abs h1 ?_
 clear h1 h
 generalize w.heap.size=b
 intro w2 h2
 have fc_:=h2.facts
 go_wp2_with fail
 have h7:=h2.fill [.int .i64 3,.int .i64 2,.int .i64 2,.int .i64 0,.int .i64 0,.int .i64 2,.int .i64 0,.int .i64 1,.int .i64 1,.int .i64 2,.int .i64 0,.int .i64 3] rfl
 simp only[dm]at h7
 refine In.abs h7 ?_
 clear h7
 intro w7 h7
 have hc:=h7.cells
 refine bodyPost_ret (v:= .agg #[.int .i64 3,.int .i64 2,.int .i64 2,.int .i64 0,.int .i64 0,.int .i64 2,.int .i64 0,.int .i64 1,.int .i64 1,.int .i64 2,.int .i64 0,.int .i64 3]) (by simp[results,results412,go_sem,hc]) rfl ?_
 exact⟨rfl,h7.drop⟩
theorem abM (w:World):(Instr.index 467 (.agg #[.int .i64 3,.int .i64 2,.int .i64 2,.int .i64 0,.int .i64 0,.int .i64 2,.int .i64 0,.int .i64 1,.int .i64 1,.int .i64 2,.int .i64 0,.int .i64 3]) (.int .i64 0)).run prog w= .ok (.agg #[.int .i64 3,.int .i64 2]) w:=by kernel_rfl
theorem abq (w:World):(Instr.index 467 (.agg #[.int .i64 3,.int .i64 2,.int .i64 2,.int .i64 0,.int .i64 0,.int .i64 2,.int .i64 0,.int .i64 1,.int .i64 1,.int .i64 2,.int .i64 0,.int .i64 3]) (.int .i64 1)).run prog w= .ok (.agg #[.int .i64 2,.int .i64 0]) w:=by kernel_rfl
theorem abl (w:World):(Instr.index 467 (.agg #[.int .i64 3,.int .i64 2,.int .i64 2,.int .i64 0,.int .i64 0,.int .i64 2,.int .i64 0,.int .i64 1,.int .i64 1,.int .i64 2,.int .i64 0,.int .i64 3]) (.int .i64 2)).run prog w= .ok (.agg #[.int .i64 0,.int .i64 2]) w:=by kernel_rfl
theorem abT (w:World):(Instr.index 467 (.agg #[.int .i64 3,.int .i64 2,.int .i64 2,.int .i64 0,.int .i64 0,.int .i64 2,.int .i64 0,.int .i64 1,.int .i64 1,.int .i64 2,.int .i64 0,.int .i64 3]) (.int .i64 3)).run prog w= .ok (.agg #[.int .i64 0,.int .i64 1]) w:=by kernel_rfl
theorem abD (w:World):(Instr.index 467 (.agg #[.int .i64 3,.int .i64 2,.int .i64 2,.int .i64 0,.int .i64 0,.int .i64 2,.int .i64 0,.int .i64 1,.int .i64 1,.int .i64 2,.int .i64 0,.int .i64 3]) (.int .i64 4)).run prog w= .ok (.agg #[.int .i64 1,.int .i64 2]) w:=by kernel_rfl
theorem abk (w:World):(Instr.index 467 (.agg #[.int .i64 3,.int .i64 2,.int .i64 2,.int .i64 0,.int .i64 0,.int .i64 2,.int .i64 0,.int .i64 1,.int .i64 1,.int .i64 2,.int .i64 0,.int .i64 3]) (.int .i64 5)).run prog w= .ok (.agg #[.int .i64 0,.int .i64 3]) w:=by kernel_rfl
theorem aa3 {f t:Int} (h:In w0 w l) (hm:(f,t)∈Dl):
 aW 379 #[.agg #[.int .i64 f,.int .i64 t]] w w0 (.bool true) l:=by
 have h1:=h.alloc (.cells #[.int .i64 f,.int .i64 t] 453)
 go_enter func379,ntmps379
 go_wp2_with (go_at_call 412;refine bF (V3 h1) ?_;intro w2 h2)
 clear h1 h
 generalize w.heap.size=b at*
 simp only[Dl,List.mem_cons,Prod.mk.injEq,List.not_mem_nil,or_false]at hm
 obtain⟨j,hj⟩:∃j:Nat,(f=3∧t=2∧j=0)∨(f=2∧t=0∧j=1)∨(f=0∧t=2∧j=2)∨(f=0∧t=1∧j=3)∨(f=1∧t=2∧j=4)∨(f=0∧t=3∧j=5):=by
  rcases hm with⟨rfl,rfl⟩|⟨rfl,rfl⟩|⟨rfl,rfl⟩|⟨rfl,rfl⟩|⟨rfl,rfl⟩|⟨rfl,rfl⟩
  ·exact⟨0,by simp⟩
  ·exact⟨1,by simp⟩
  ·exact⟨2,by simp⟩
  ·exact⟨3,by simp⟩
  ·exact⟨4,by simp⟩
  ·exact⟨5,by simp⟩
 clear hm
 have hj5:j≤5:=by omega
 go_loopw [4,6] (fun _ c wr=>∃k:Nat,k≤j∧c= .int .i64 k∧In w0 wr (pts b (.cells #[.int .i64 f,.int .i64 t] 453)::l))
  (fun _ c _=>6-(intOf c).toNat)
 case atStart=>exact⟨0,Nat.zero_le _,rfl,h2⟩
 case round=>
  obtain⟨k,hk,rfl,hw⟩:=hrel
  clear h2
  have fc_:=hw.facts
  have hn1:=hw.ne1
  have hn2:=hw.ne2
  have hA:=hw.cellsA
  have x0:=abM
  have x1:=abq
  have x2:=abl
  have x3:=abT
  have x4:=abD
  have x5:=abk
  rcases hj with⟨rfl,rfl,rfl⟩|⟨rfl,rfl,rfl⟩|⟨rfl,rfl,rfl⟩|⟨rfl,rfl,rfl⟩|⟨rfl,rfl,rfl⟩|⟨rfl,rfl,rfl⟩
  all_goals(rcases k with _|_|_|_|_|_|k)
  all_goals(try omega)
  all_goals go_wp2_with fail
  all_goals first
   |(go_ret;exact⟨rfl,(hw.alloc _).drop.drop⟩)
   |(go_roundw
     case rel=>first|exact⟨1,by omega,by first|rfl|go_num,(hw.alloc _).drop⟩|exact⟨2,by omega,by first|rfl|go_num,(hw.alloc _).drop⟩|exact⟨3,by omega,by first|rfl|go_num,(hw.alloc _).drop⟩|exact⟨4,by omega,by first|rfl|go_num,(hw.alloc _).drop⟩|exact⟨5,by omega,by first|rfl|go_num,(hw.alloc _).drop⟩
     case measure=>simp[intOf])
theorem DD {w1:World} {g cap i j:Nat} {x y:eY} {u:Value} (h:In w0 w1 (pts r (jS (.slice (some ⟨g,0,none⟩) s.ay.length cap) s.running)::Row 348 4 (.slice (some ⟨g,0,none⟩) s.ay.length cap) s.ay.length (s.ay.map kN).flatten::l))
 (hx:s.ay[i]? =some x) (hj:j<4) (hy:(kN x).set j u=kN y) (hu:u.oneCell'=true):
 In w0 (w1.setCell ⟨g,i*4+j,none⟩ u) (pts r (jS (.slice (some ⟨g,0,none⟩) (s.ay.set i y).length cap) s.running)::Row 348 4 (.slice (some ⟨g,0,none⟩) (s.ay.set i y).length cap) (s.ay.set i y).length ((s.ay.set i y).map kN).flatten::l):=by
 have hi:=(List.getElem?_eq_some_iff.1 hx).1
 have hl:=jW (jw (s:=s))
 have h2:=(h.ae p1).qU (off:=i*4+j) (u:=u) (by rw[hl,List.length_map];omega) hu
 rw[rW jw (x:=kN x) (by simp[hx]) j u hj,hy,←List.map_set]at h2
 simp only[List.length_set]
 exact h2.ae p1
theorem Xr {w1:World} {g cap i j:Nat} {x y:eY} {u:Value} (h:In w0 w1 (pts r (jS (.slice (some ⟨g,0,none⟩) s.ay.length cap) s.running)::Row 348 4 (.slice (some ⟨g,0,none⟩) s.ay.length cap) s.ay.length (s.ay.map kN).flatten::l))
 (hp:s.ay.length≤256) (hx:s.ay[i]? =some x) (hj:j<4) (hy:(kN x).set j u=kN y) (hu:u.oneCell'=true):
 In w0 (w1.setCell ⟨g,i*4+j,none⟩ u) (nN r {s with ay:=s.ay.set i y}::l):=
 tV (s:={s with ay:=s.ay.set i y}) (by simpa using hp) (DD h hx hj hy hu)
theorem EZ {i:Nat} {x:eY} {t:Int} (h:In w0 w (nN r s::l)) (hx:s.ay[i]? =some x) (hm:(x.state,t)∈Dl):
 aW 300 #[r,.int .i64 i,.int .i64 t] w w0 (.bool true) (nN r {s with ay:=s.ay.set i {x with state:=t}}::l):=by
 obtain⟨g,cap,hp,hi,hc,h1⟩:=wG h hx
 have hc2:w.cell? ⟨g,i*4+2,none⟩=some (.int .i64 x.state):=(h1.ae p1).bT jw (x:=kN x) (by simp[hx]) 2 rfl
 have e2:(i:Int)<(s.ay.length:Int):=by omega
 have fc_:=h1.facts
 go_enter func300,ntmps300
 go_upto_region 3 with(go_at_call 379;refine bF (aa3 h hm) ?_;intro w2 h2)
 clear h1 hc2 h hm
 obtain⟨g2,cap2,_,_,hc3,h3⟩:=wG h2 hx
 have hc4:w2.cell? ⟨g2,i*4+2,none⟩=some (.int .i64 x.state):=(h3.ae p1).bT jw (x:=kN x) (by simp[hx]) 2 rfl
 have hf4:w2.frozen? ⟨g2,i*4+2,none⟩=false:=(h3.ae p1).fH
 have h5:=Xr h3 hp hx (j:=2) (u:= .int .i64 t) (y:={x with state:=t}) (by omega) rfl rfl
 have fc_:=h3.facts
 clear hx
 go_wp2_with fail
 go_ret
 exact⟨rfl,h5⟩
theorem DX {i:Nat} {x:eY} (h:In w0 w (nN r s::l)) (hx:s.ay[i]? =some x) (hf:x.limit≤x.bI):
 aW 207 #[r,.int .i64 i] w w0 (.tuple #[.bool false,.int .i64 4]) (nN r s::l):=by
 obtain⟨g,cap,hp,hi,hc,h1⟩:=wG h hx
 have hh:=DN h hi
 have hc0:w.cell? ⟨g,i*4,none⟩=some (.int .i64 x.limit):=(h1.ae p1).bT jw (x:=kN x) (by simp[hx]) 0 rfl
 have hc3:w.cell? ⟨g,i*4+3,none⟩=some (.int .i64 x.bI):=(h1.ae p1).bT jw (x:=kN x) (by simp[hx]) 3 rfl
 have e2:(i:Int)<(s.ay.length:Int):=by omega
 have fc_:=h1.facts
 clear hx
 go_enter func207,ntmps207
 go_wp2_with (go_at_call 252;refine bW hh ?_)
 refine rg ⟨[], []⟩ [.c 0 0,.c 0 1,.c 0 2,.c 1 3,.c 0 4,.c 0 5,.c 0 6,.c 1 7,.c 0 8] ?_
 refine lK ?_
 go_wp2_with fail
 go_ret2
 exact⟨rfl,h.drew⟩
def eY.more (x:eY):eY:={x with bI:=x.bI+1,state:=if x.state=3 then 2 else x.state}
theorem MP {i:Nat} {x:eY} (h:In w0 w (nN r s::l)) (hx:s.ay[i]? =some x) (hf:x.bI<x.limit) (h0:0≤x.bI) (hb:x.limit≤255):
 aW 207 #[r,.int .i64 i] w w0 (.tuple #[.bool (decide (x.state=3)),.int .i64 0]) (nN r {s with ay:=s.ay.set i x.more}::l):=by
 obtain⟨g,cap,hp,hi,hc,h1⟩:=wG h hx
 have hh:=DN h hi
 have hc0:w.cell? ⟨g,i*4,none⟩=some (.int .i64 x.limit):=(h1.ae p1).bT jw (x:=kN x) (by simp[hx]) 0 rfl
 have hc3:w.cell? ⟨g,i*4+3,none⟩=some (.int .i64 x.bI):=(h1.ae p1).bT jw (x:=kN x) (by simp[hx]) 3 rfl
 have hf3:w.frozen? ⟨g,i*4+3,none⟩=false:=(h1.ae p1).fH
 have e2:(i:Int)<(s.ay.length:Int):=by omega
 have e3:¬x.limit≤x.bI:=by omega
 have e4:wrap64 (x.bI+1)=x.bI+1:=by unfold wrap64;omega
 have fc_:=h1.facts
 have h5:=(DD h1 hx (j:=3) (u:= .int .i64 (x.bI+1)) (y:={x with bI:=x.bI+1}) (by omega) rfl rfl).drew
 have hx2:(s.ay.set i {x with bI:=x.bI+1})[i]? =some {x with bI:=x.bI+1}:=by simp[hi]
 have hset:(s.ay.set i {x with bI:=x.bI+1}).length=s.ay.length:=by simp
 go_enter func207,ntmps207
 go_wp2_with (go_at_call 252;refine bW hh ?_)
 refine rg ⟨[], []⟩ [.c 0 0,.c 0 1,.c 0 2,.c 1 3,.c 0 4,.c 0 5,.c 0 6,.c 1 7,.c 0 8] ?_
 refine lK ?_
 go_upto_region 7 with(fail)
 refine In.abs h5 ?_
 clear h5 h h1 hh hc0 hc3 hf3
 intro w2 h2
 have h3:In w0 w2 (nN r {s with ay:=s.ay.set i {x with bI:=x.bI+1}}::l):=tV (s:={s with ay:=s.ay.set i {x with bI:=x.bI+1}}) (by simpa using hp) h2
 have hc2:w2.cell? ⟨g,i*4+2,none⟩=some (.int .i64 x.state):=(h2.ae p1).bT (jw (s:={s with ay:=s.ay.set i {x with bI:=x.bI+1}})) (x:=kN {x with bI:=x.bI+1}) (by simp[hi]) 2 rfl
 clear h2
 by_cases hs:x.state=3
 ·have ht:=EZ h3 (i:=i) (x:={x with bI:=x.bI+1}) (t:=2) hx2 (by simp only[hs];decide)
  rw[hs]at hc2
  go_wp2_with (go_at_call 300;refine bF ht ?_;intro w4 h4)
  go_ret2
  refine⟨by simp[hs],?_⟩
  simpa[eY.more,hs]using h4
 ·go_wp2_with fail
  go_ret2
  refine⟨by simp[hs],?_⟩
  simpa[eY.more,hs]using h3
theorem EU {i:Nat} {x:eY} {t:Int} (h:In w0 w (nN r s::l)) (hr:s.running=i) (hx:s.ay[i]? =some x) (hm:(x.state,t)∈Dl):
 aW 422 #[r,.int .i64 t] w w0 (.int .i64 i) (nN r ⟨s.ay.set i {x with state:=t},-1⟩::l):=by
 have ht:=EZ h hx hm
 obtain⟨v,hp,h1⟩:=pg h
 rw[hr]at h1
 have fc_:=h1.facts
 clear hr h1 hx hm
 go_enter func422,ntmps422
 go_upto_region 3 with(go_at_call 300;refine bF ht ?_;intro w4 h4)
 obtain⟨v4,hp4,h5⟩:=pg h4
 have fc_:=h5.facts
 go_wp2_with fail
 go_ret
 have h6:In w0 _ (pts r (jS v4 (-1))::_):=h5.setCell (off:=2) (.int .i64 (-1))
 exact⟨rfl,tV (s:=⟨s.ay.set i {x with state:=t},-1⟩) hp4 h6⟩
theorem FQ {i:Nat} {x:eY} (h:In w0 w (nN r s::l)) (hr:s.running=i) (hx:s.ay[i]? =some x) (hm:x.state=0):
 aW 400 #[r] w w0 (.tuple #[.int .i64 i,.int .i64 0]) (nN r ⟨s.ay.set i {x with state:=2},-1⟩::l):=by
 have ha:=tq h
 have hb:=ET h
 have hs:=EU h hr hx (t:=2) (by rw[hm];decide)
 have hd:decide (0≤s.running)=true:=by rw[hr];simp
 rw[hd]at hb
 clear hr hx hm hd
 go_enter func400,ntmps400
 go_wp2_with (first|(go_at_call 256;refine bW ha ?_)|(go_at_call 421;refine bW hb ?_)|(go_at_call 422;refine bF hs ?_;intro w4 h4))
 go_ret2
 exact⟨rfl,h4⟩
theorem V4 {i:Nat} {x:eY} (h:In w0 w (nN r s::l)) (hr:s.running=i) (hx:s.ay[i]? =some x) (hm:x.state=0):
 aW 397 #[r] w w0 (.tuple #[.int .i64 i,.int .i64 0]) (nN r ⟨s.ay.set i {x with state:=2},-1⟩::l):=by
 have hs:=FQ h hr hx hm
 clear hr hx hm
 go_enter func397,ntmps397
 go_wp2_with (go_at_call 400;refine bF hs ?_;intro w4 h4)
 go_ret2
 exact⟨rfl,h4⟩
theorem GK {i:Nat} {x:eY} (h:In w0 w (nN r s::l)) (hx:s.ay[i]? =some x) (hm:x.state=1):
 aW 338 #[r,.int .i64 i] w w0 (.int .i64 0) (nN r {s with ay:=s.ay.set i {x with state:=2}}::l):=by
 have ha:=tq h
 have ht:=EZ h hx (t:=2) (by rw[hm];decide)
 obtain⟨g,cap,hp,hi,hc,h1⟩:=wG h hx
 have hh:=DN h hi
 have hc2:w.cell? ⟨g,i*4+2,none⟩=some (.int .i64 1):=by rw[←hm];exact(h1.ae p1).bT jw (x:=kN x) (by simp[hx]) 2 rfl
 have e2:(i:Int)<(s.ay.length:Int):=by omega
 have fc_:=h1.facts
 clear hx hm
 go_enter func338,ntmps338
 go_wp2_with (first|(go_at_call 256;refine bW ha ?_)|(go_at_call 252;refine bW hh ?_)|(go_at_call 300;refine bF ht ?_;intro w4 h4))
 go_ret
 exact⟨rfl,h4⟩
theorem Cm {i:Nat} {x:eY} (h:In w0 w (nN r s::l)) (hr:s.running= -1) (hx:s.ay[i]? =some x) (hm:x.state=2):
 aW 404 #[r,.int .i64 i] w w0 (.int .i64 0) (nN r ⟨s.ay.set i {x with state:=0},i⟩::l):=by
 have ha:=tq h
 have hb:=ET h
 have ht:=EZ h hx (t:=0) (by rw[hm];decide)
 obtain⟨g,cap,hp,hi,hc,h1⟩:=wG h hx
 have hh:=DN h hi
 have hd:decide (0≤s.running)=false:=by rw[hr];decide
 rw[hd]at hb
 have hc2:w.cell? ⟨g,i*4+2,none⟩=some (.int .i64 2):=by rw[←hm];exact(h1.ae p1).bT jw (x:=kN x) (by simp[hx]) 2 rfl
 have e2:(i:Int)<(s.ay.length:Int):=by omega
 have fc_:=h1.facts
 clear hx hm hd hr
 go_enter func404,ntmps404
 go_upto_region 10 with(first|(go_at_call 256;refine bW ha ?_)|(go_at_call 252;refine bW hh ?_)|(go_at_call 421;refine bW hb ?_)|(go_at_call 300;refine bF ht ?_;intro w4 h4))
 obtain⟨v4,hp4,h5⟩:=pg h4
 have fc_:=h5.facts
 go_wp2_with fail
 go_ret
 have h6:In w0 _ (pts r (jS v4 i)::_):=h5.setCell (off:=2) (.int .i64 i)
 exact⟨rfl,tV (s:=⟨s.ay.set i {x with state:=0},i⟩) hp4 h6⟩
theorem Q4 {i:Nat} {x:eY} (h:In w0 w (nN r s::l)) (hr:s.running=i) (hx:s.ay[i]? =some x) (hm:x.state=0) (XQ:x.extended=true):
 aW 398 #[r] w w0 (.tuple #[.int .i64 i,.int .i64 0]) (nN r ⟨s.ay.set i {x with state:=1},-1⟩::l):=by
 have ha:=tq h
 have hb:=ET h.drew
 have hs:=EU h.drew hr hx (t:=1) (by rw[hm];decide)
 have hd:decide (0≤s.running)=true:=by rw[hr];simp
 rw[hd]at hb
 obtain⟨g,cap,hp,hi,hc,h1⟩:=wG h hx
 have hc1:w.cell? ⟨g,i*4+1,none⟩=some (.bool true):=by rw[←XQ];exact(h1.ae p1).bT jw (x:=kN x) (by simp[hx]) 1 rfl
 have e2:(i:Int)<(s.ay.length:Int):=by omega
 rw[hr]at h1
 have fc_:=h1.facts
 clear hr hx hm hd XQ
 go_enter func398,ntmps398
 go_wp2_with (go_at_call 256;refine bW ha ?_)
 refine rg ⟨[], []⟩ [.c 0 0,.e 1,.c 0 2,.c 0 3,.c 0 4,.c 0 5,.c 0 6,.c 1 7,.c 0 8,.c 0 9,.c 0 10,.c 1 11,.c 0 12,.c 0 13,.c 1 14,.c 0 15,.c 0 16,.c 0 17] ?_
 refine P8 ?_;intro K hK
 go_wp2_with (go_at_call 421;refine bW hb ?_)
 go_wp2_with fail
 refine lK ?_
 go_wp2_with (go_at_call 422;refine bF hs ?_;intro w4 h4)
 go_ret2
 exact⟨rfl,h4⟩
def eY.less (x:eY):eY:={x with bI:=x.bI-1,state:=if x.bI=1 then 3 else 2}
theorem aa0 {i:Nat} {x:eY} (h:In w0 w (nN r s::l)) (hr:s.running=i) (hx:s.ay[i]? =some x) (hm:x.state=0) (h0:1≤x.bI) (hb:x.bI≤255):
 aW 396 #[r] w w0 (.tuple #[.int .i64 i,.int .i64 x.less.state,.int .i64 0]) (nN r ⟨s.ay.set i x.less,-1⟩::l):=by
 have hal:=tq h
 have hbu:=ET h
 have hd:decide (0≤s.running)=true:=by rw[hr];simp
 rw[hd]at hbu
 obtain⟨g,cap,hp,hi,hc,h1⟩:=wG h hx
 have hc3:w.cell? ⟨g,i*4+3,none⟩=some (.int .i64 x.bI):=(h1.ae p1).bT jw (x:=kN x) (by simp[hx]) 3 rfl
 have hf3:w.frozen? ⟨g,i*4+3,none⟩=false:=(h1.ae p1).fH
 have e2:(i:Int)<(s.ay.length:Int):=by omega
 have e4:wrap64 (x.bI-1)=x.bI-1:=by unfold wrap64;omega
 have h5:=DD h1.drew hx (j:=3) (u:= .int .i64 (x.bI-1)) (y:={x with bI:=x.bI-1}) (by omega) rfl rfl
 have hx2:(s.ay.set i {x with bI:=x.bI-1})[i]? =some {x with bI:=x.bI-1}:=by simp[hi]
 rw[hr]at h1
 have fc_:=h1.facts
 clear hd
 go_enter func396,ntmps396
 go_wp2_with (first|(go_at_call 256;refine bW hal ?_)|(go_at_call 421;refine bW hbu ?_))
 refine rg ⟨[], []⟩ [.c 0 0,.c 0 1,.c 0 2,.c 1 3,.c 0 4,.c 0 5,.c 0 6,.c 1 7,.c 0 8,.c 0 9] ?_
 refine lK ?_
 go_upto_region 7 with(fail)
 refine In.abs h5 ?_
 clear h5 h h1 hal hbu hc3 hf3
 intro w2 h2
 have h3:In w0 w2 (nN r {s with ay:=s.ay.set i {x with bI:=x.bI-1}}::l):=tV (s:={s with ay:=s.ay.set i {x with bI:=x.bI-1}}) (by simpa using hp) h2
 have hc2:w2.cell? ⟨g,i*4+3,none⟩=some (.int .i64 (x.bI-1)):=(h2.ae p1).bT (jw (s:={s with ay:=s.ay.set i {x with bI:=x.bI-1}})) (x:=kN {x with bI:=x.bI-1}) (by simp[hi]) 3 rfl
 clear h2
 by_cases hs:x.bI=1
 ·have ht:=EU h3 (i:=i) (x:={x with bI:=x.bI-1}) (t:=3) hr hx2 (by simp only[hm];decide)
  have e5:x.bI-1=0:=by omega
  rw[e5]at hc2
  clear hr
  go_wp2_with (go_at_call 422;refine bF ht ?_;intro w4 h4)
  refine bodyPost_ret (results_tmp3 rfl _ _ _) rfl ?_
  refine⟨by simp[eY.less,hs],?_⟩
  simpa[eY.less,hs]using h4
 ·have ht:=EU h3 (i:=i) (x:={x with bI:=x.bI-1}) (t:=2) hr hx2 (by simp only[hm];decide)
  have e5:¬x.bI-1=0:=by omega
  clear hr
  go_wp2_with (go_at_call 422;refine bF ht ?_;intro w4 h4)
  refine bodyPost_ret (results_tmp3 rfl _ _ _) rfl ?_
  refine⟨by simp[eY.less,hs],?_⟩
  simpa[eY.less,hs]using h4
def yN (x:vS):List Value:=[.int .i64 x.limit,.bool x.extended]
def vS.one (x:vS):eY:=⟨x.limit,x.extended,3,0⟩
theorem abv {v:Value} {xs:List vS} (h:In w0 w (Row 405 2 v xs.length (xs.map yN).flatten::l)) (hn:xs.length≤256) (hok:∀x∈xs,1≤x.limit∧x.limit≤255∧(x.extended=true→x.limit≤1)):
 Calls prog 296 #[v] w fun e w'=>∃b,e= .returned (.tuple #[.pointer (some ⟨b,0,none⟩),.int .i64 0])∧In w0 w' (nN b ⟨xs.map vS.one,-1⟩::Row 405 2 v xs.length (xs.map yN).flatten::l):=by
 obtain⟨ao,cap,rfl⟩:∃ao cap,v= .slice ao xs.length cap:=by
  rcases h.aU with⟨rfl,e,_⟩|⟨g,cap,ext,rfl,_⟩
  ·exact⟨none,0,by rw[e]⟩
  ·exact⟨_,_,rfl⟩
 have hn2:¬((256:Int)<(xs.length:Int)):=by omega
 have h1:In w0 _ (pts w.heap.size (jS (.slice none 0 0) (-1))::_):=h.alloc (jS (.slice none 0 0) (-1))
 go_enter func296,ntmps296
 go_wp2_with fail
 refine In.abs h1 ?_
 clear h1 h
 generalize w.heap.size=b
 intro w2 h2
 have h3:In w0 w2 (nN b ⟨[],-1⟩::Row 405 2 (.slice ao xs.length cap) xs.length (xs.map yN).flatten::l):=tV (s:=⟨[],-1⟩) (by simp) ((h2.dh 348 4).ae p1)
 clear h2
 go_loopw [6,14] (fun _ c wr=>∃k:Nat,k≤xs.length∧c= .int .i64 k∧
  In w0 wr (nN b ⟨(xs.take k).map vS.one,-1⟩::Row 405 2 (.slice ao xs.length cap) xs.length (xs.map yN).flatten::l))
  (fun _ c _=>xs.length-(intOf c).toNat)
 case atStart=>exact⟨0,Nat.zero_le _,rfl,h3⟩
 case round=>
  obtain⟨k,hk,rfl,hw⟩:=hrel
  clear h3
  by_cases hlt:k<xs.length
  ·rcases(hw.ae p1).aU with⟨_,e,_⟩|⟨g,cap2,ext,e,_⟩
   ·omega
   cases e
   have hsA:∀y∈xs.map yN,y.length=2:=by intro y hy;obtain⟨q,_,rfl⟩:=List.mem_map.1 hy;rfl
   have hc0:wr.cell? ⟨g,k*2,none⟩=some (.int .i64 xs[k].limit):=(hw.ae p1).bT hsA (x:=yN xs[k]) (by simp[hlt]) 0 rfl
   have hc1:wr.cell? ⟨g,k*2+1,none⟩=some (.bool xs[k].extended):=(hw.ae p1).bT hsA (x:=yN xs[k]) (by simp[hlt]) 1 rfl
   obtain⟨ok1,ok2,ok3⟩:=hok xs[k] (List.getElem_mem hlt)
   have hnext:(xs.take (k+1)).map vS.one=(xs.take k).map vS.one++ [xs[k].one]:=by rw[List.take_succ_eq_append_getElem hlt,List.map_append];rfl
   have h4:=hw.alloc (.cells #[.int .i64 xs[k].limit,.bool xs[k].extended] 405)
   generalize xs[k]=x at*
   have o1:¬x.limit<1:=by omega
   have o2:¬(255:Int)<x.limit:=by omega
   have o3:x.extended=true→¬(1:Int)<x.limit:=fun h=>by have:=ok3 h;omega
   go_upto_region 7 with(fail)
   refine In.abs h4 ?_
   clear h4 hw hc0 hc1
   generalize wr.heap.size=q
   intro w4 h4
   obtain⟨v5,hp5,h5⟩:=pg (h4.ae p1)
   obtain⟨UG,cap5,rfl⟩:∃ao cap,v5= .slice ao k cap:=by
    have e:((xs.take k).map vS.one).length=k:=by simp;omega
    rcases(h5.ae p1).aU with⟨rfl,e2,_⟩|⟨g,cap,ext,rfl,_⟩
    ·exact⟨none,0,by rw[←e2,e]⟩
    ·exact⟨_,_,by rw[e]⟩
   rcases x with⟨lim,ex⟩
   simp only at o1 o2 o3 h5 h4 hnext
   have fc_:=h5.facts
   have hlen:((xs.take k).map vS.one).length=k:=by simp;omega
   cases ex
   ·go_wp2_with fail
    have hS0:=(h5.drew).ps [0,1]
    refine nK hS0 ⟨[10],[11,14]⟩ [.c 0 0,.c 0 1,.c 0 2,.c 0 3,.c 2 4,.c 0 5,.c 1 6,.c 0 7,.c 1 8,.c 0 9,.e 10,.e 11,.c 0 12,.c 0 13,.e 14] ?_
    refine nD ?_;intro K hK
    go_wp2_with fail
    refine df hK ((hS0.alloc _).drop) fun hS0=>?_
    refine bG rfl rfl fun K hK=>?_
    refine aZ TO ((h5.drew.ae p1).alloc (.cells (kN ⟨lim,false,3,0⟩).toArray 348)) rfl rfl rfl (JG _) (by omega) ?_
    intro u6 w6 h6
    obtain⟨ao6,cap6,rfl⟩:∃ao cap,u6= .slice ao (k+1) cap:=by
     rcases h6.aU with⟨rfl,e2,_⟩|⟨g,cap,ext,rfl,_⟩
     ·omega
     ·exact⟨_,_,by rw[hlen]⟩
    have fc_:=h6.facts
    go_wp2_with fail
    refine uw ?_;intro K hK
    go_wp2_with fail
    try refine aS ?_
    go_wp2_with fail
    go_roundw
    case rel=>
     have h7:In w0 _ (pts b (jS (.slice ao6 (k+1) cap6) (-1))::_):=(h6.ae p1).setCell (off:=1) (.slice ao6 (k+1) cap6)
     refine⟨k+1,hlt,by go_num,tV (v:= .slice ao6 (k+1) cap6) (s:=⟨(xs.take (k+1)).map vS.one,-1⟩) (by simp;omega) ?_⟩
     simp only[hnext,List.map_append,List.flatten_append,List.length_append,List.map_cons,List.map_nil,List.flatten_cons,List.flatten_nil,List.append_nil,List.length_cons,List.length_nil]
     exact(h7.ae p2).drop
    case measure=>simp[intOf]<;>omega
   ·have o4:=o3 rfl
    go_wp2_with fail
    have hS0:=(h5.drew).ps [0,1]
    refine nK hS0 ⟨[10],[11,14]⟩ [.c 0 0,.c 0 1,.c 0 2,.c 0 3,.c 2 4,.c 0 5,.c 1 6,.c 0 7,.c 1 8,.c 0 9,.e 10,.e 11,.c 0 12,.c 0 13,.e 14] ?_
    refine nD ?_;intro K hK
    go_wp2_with fail
    refine df hK ((hS0.alloc _).drop) fun hS0=>?_
    refine bG rfl rfl fun K hK=>?_
    refine aZ TO ((h5.drew.ae p1).alloc (.cells (kN ⟨lim,true,3,0⟩).toArray 348)) rfl rfl rfl (JG _) (by omega) ?_
    intro u6 w6 h6
    obtain⟨ao6,cap6,rfl⟩:∃ao cap,u6= .slice ao (k+1) cap:=by
     rcases h6.aU with⟨rfl,e2,_⟩|⟨g,cap,ext,rfl,_⟩
     ·omega
     ·exact⟨_,_,by rw[hlen]⟩
    have fc_:=h6.facts
    go_wp2_with fail
    refine uw ?_;intro K hK
    go_wp2_with fail
    try refine aS ?_
    go_wp2_with fail
    go_roundw
    case rel=>
     have h7:In w0 _ (pts b (jS (.slice ao6 (k+1) cap6) (-1))::_):=(h6.ae p1).setCell (off:=1) (.slice ao6 (k+1) cap6)
     refine⟨k+1,hlt,by go_num,tV (v:= .slice ao6 (k+1) cap6) (s:=⟨(xs.take (k+1)).map vS.one,-1⟩) (by simp;omega) ?_⟩
     simp only[hnext,List.map_append,List.flatten_append,List.length_append,List.map_cons,List.map_nil,List.flatten_cons,List.flatten_nil,List.append_nil,List.length_cons,List.length_nil]
     exact(h7.ae p2).drop
    case measure=>simp[intOf]<;>omega
  ·have:k=xs.length:=by omega
   subst this
   rw[List.take_length]at hw
   go_wp2_with fail
   go_ret2
   exact⟨_,rfl,hw⟩
end
def fB (x:eX):List Value:=[.bool x.set,.int .u64 x.left,.int .u32 x.cycle]
theorem vg (x:eX):∀u∈fB x,u.oneCell'=true:=by simp[fB,Value.oneCell']
def eG (s:dS) (v:Value):Obj:= .cells #[.bool true,.int .u32 s.most,.int .u32 s.least,.int .u32 s.value,v] 371 (0,0)
def lY (r:Nat) (s:dS):SL:=ex fun v=>bQ [AQ s.Ok,pts r (eG s v),Row 373 3 v s.ag.length (s.ag.map fB).flatten]
theorem mY {w0 w:World} {l:List SL} {r:Nat} {s:dS} (h:In w0 w (lY r s::l)):
 ∃ao cap,s.Ok∧In w0 w (pts r (eG s (.slice ao s.ag.length cap))::Row 373 3 (.slice ao s.ag.length cap) s.ag.length (s.ag.map fB).flatten::l):=by
 obtain⟨v,h⟩:=In.aY.1 h
 obtain⟨hp,h⟩:=In.dw.1 (In.bn.1 h)
 rcases(h.ae p1).aU with⟨rfl,e,_⟩|⟨g,cap,ext,rfl,_⟩
 ·exact⟨none,0,hp,by rw[e]at h⊢;exact h⟩
 ·exact⟨_,_,hp,h⟩
theorem xw {w0 w:World} {l:List SL} {r:Nat} {s:dS} {v:Value} (hp:s.Ok)
 (h:In w0 w (pts r (eG s v)::Row 373 3 v s.ag.length (s.ag.map fB).flatten::l)):In w0 w (lY r s::l):=
 In.aY.2 ⟨v,In.bn.2 (In.dw.2 ⟨hp,h⟩)⟩
theorem Ec {w0 w:World} {l:List SL} {r i:Nat} {s:dS} {x:eX} (h:In w0 w (lY r s::l)) (hx:s.ag[i]? =some x):
 ∃g cap,s.Ok∧i<s.ag.length∧s.ag.length≤cap∧
  In w0 w (pts r (eG s (.slice (some ⟨g,0,none⟩) s.ag.length cap))::Row 373 3 (.slice (some ⟨g,0,none⟩) s.ag.length cap) s.ag.length (s.ag.map fB).flatten::l):=by
 obtain⟨ao,cap,hp,h1⟩:=mY h
 have hi:=(List.getElem?_eq_some_iff.1 hx).1
 rcases(h1.ae p1).aU with⟨_,e,_⟩|⟨g,cap,ext,e,q1,_⟩
 ·omega
 ·cases e
  exact⟨g,cap,hp,hi,q1,h1⟩
theorem jv {s:dS}:∀y∈s.ag.map fB,y.length=3:=by intro y hy;obtain⟨q,_,rfl⟩:=List.mem_map.1 hy;rfl
theorem TAl:ig prog 369 373 3 24 (.agg #[.bool false,.int .u64 0,.int .u32 0]):=⟨underlying369,by kernel_rfl,rfl,by decide,by decide⟩
section
variable {w0 w:World} {l:List SL} {r:Nat} {s:dS}
theorem oK {g cap i:Nat} {y:eX} (hp:s.Ok) (hy:0≤y.left∧y.left≤s.most+1∧0≤y.cycle∧y.cycle≤s.most∧(y.set=true→1≤y.left))
 (h:In w0 w (Row 373 3 (.slice (some ⟨g,0,none⟩) (s.ag.set i y).length cap) (s.ag.set i y).length ((s.ag.set i y).map fB).flatten::pts r (eG s (.slice (some ⟨g,0,none⟩) s.ag.length cap))::l)):
 In w0 w (lY r {s with ag:=s.ag.set i y}::l):=by
 refine xw (v:= .slice (some ⟨g,0,none⟩) s.ag.length cap) (hp.set i hy) ?_
 show In w0 w (pts r (eG s (.slice (some ⟨g,0,none⟩) s.ag.length cap))::Row 373 3 (.slice (some ⟨g,0,none⟩) s.ag.length cap) (s.ag.set i y).length ((s.ag.set i y).map fB).flatten::l)
 rw[List.length_set]at h⊢
 exact h.ae p1
theorem GI (h:In w0 w (lY r s::l)):
 Calls prog 260 #[r] w fun e w'=>e= .returned (.bool true)∧w=w':=by
 obtain⟨ao,cap,hp,h1⟩:=mY h
 have fc_:=h1.facts
 go_enter func260,ntmps260
 go_wp2_with fail
 go_ret
 exact⟨rfl,rfl⟩
theorem Vd (h:In w0 w (lY r s::l)):
 Calls prog 120 #[r] w fun e w'=>e= .returned (.int .u32 s.value)∧w=w':=by
 have hal:=GI h
 obtain⟨ao,cap,hp,h1⟩:=mY h
 have fc_:=h1.facts
 go_enter func120,ntmps120
 go_wp2_with (go_at_call 260;refine bW hal ?_)
 go_ret
 exact⟨rfl,rfl⟩
theorem KF {i:Nat} (h:In w0 w (lY r s::l)) (hi:i<s.ag.length):
 Calls prog 352 #[r,.int .i64 i] w fun e w'=>e= .returned (.bool true)∧w=w':=by
 have hal:=GI h
 obtain⟨ao,cap,hp,h1⟩:=mY h
 have fc_:=h1.facts
 have e1:(0:Int)≤(i:Int):=by omega
 have e2:(i:Int)<(s.ag.length:Int):=by omega
 go_enter func352,ntmps352
 go_wp2_with (go_at_call 260;refine bW hal ?_)
 go_ret
 exact⟨rfl,rfl⟩
theorem Jh {n:Int} {v:Value} (hn:0≤n) (hp:s.Ok) (h1:In w0 w (pts r (eG s v)::l)):
 Calls prog 416 #[r,.int .u32 n] w fun e w'=>e= .returned (.bool (s.wH n))∧w=w':=by
 have hl:=hp.le1
 have fc_:=h1.facts
 go_enter func416,ntmps416
 by_cases h0:n=0
 ·go_wp2_with fail
  go_ret
  exact⟨by simp[dS.wH,h0],rfl⟩
 ·by_cases h2:s.least≤n
  ·go_wp2_with fail
   go_ret
   exact⟨by simp[dS.wH,h0,h2],rfl⟩
  ·go_wp2_with fail
   go_ret
   exact⟨by(have e0:(n==0)=false:=by simpa using h0);(have e1:¬s.least≤n:=by omega);simp[dS.wH,e0,e1,h0],rfl⟩
theorem XH {g n:Int} (w:World) (g1:1≤g) (g2:g≤2147483647) (n0:0≤n) (n1:n≤g):
 Calls prog 393 #[.int .u32 g,.int .u32 n,.int .u64 1] w fun e w'=>e= .returned (.int .u32 (if n=g then 0 else n+1))∧w=w':=by
 have e1:(1:Int)%(g+1)=1:=Int.emod_eq_of_lt (by omega) (by omega)
 have e2:(n+1).tmod (g+1)%4294967296=if n=g then 0 else n+1:=by
  rw[Int.tmod_eq_emod_of_nonneg (by omega)]
  split
  ·rename_i h;subst h;simp
  ·rw[Int.emod_eq_of_lt (a:=n+1) (by omega) (by omega)];omega
 go_enter func393,ntmps393
 go_wp2_with fail
 all_goals
  go_ret
  exact⟨by first|(simp[←e2];done)|(rw[Int.tmod_eq_emod_of_nonneg (by omega)]at e2;simp_all),rfl⟩
theorem Wx {g n v:Int} (w:World) (g1:1≤g) (g2:g≤2147483647) (n0:0≤n) (n1:n≤g) (v0:0≤v) (v1:v≤g):
 Calls prog 420 #[.int .u32 g,.int .u32 n,.int .u32 v] w fun e w'=>e= .returned (.int .u64 (if n<v then v-n else g+1-n+v))∧w=w':=by
 go_enter func420,ntmps420
 go_wp2_with fail
 all_goals
  go_ret
  exact⟨by first|rfl|(rw[if_pos (by omega)];rfl)|(rw[if_neg (by omega)];rfl),rfl⟩
theorem Zl {g n:Int} (w:World) (g1:1≤g) (g2:g≤2147483647) (n0:0≤n) (n1:n≤g):
 Calls prog 335 #[.int .u32 g,.int .u32 n] w fun e w'=>e= .returned (.int .u32 (if n=g then 0 else n+1))∧w=w':=by
 go_enter func335,ntmps335
 go_wp2_with (go_at_call 393;refine bW (XH w g1 g2 n0 n1) ?_)
 all_goals
  go_ret
  exact⟨rfl,rfl⟩
def eX.of (x:eX):Value:=if x.set then .tuple #[.agg (fB x).toArray,.int .i64 0] else .tuple #[.agg (fB .off).toArray,.int .i64 5]
theorem Xy {i:Nat} {x:eX} (h:In w0 w (lY r s::l)) (hx:s.ag[i]? =some x):
 aW 261 #[r,.int .i64 i] w w0 x.of (lY r s::l):=by
 have h1:=h.alloc (PQ false 0 0)
 go_enter func261,ntmps261
 go_upto_region 1 with(fail)
 refine In.abs h1 ?_
 clear h1 h
 generalize w.heap.size=b at*
 intro w2 h1
 obtain⟨g,cap,hp,hi,hc,h2⟩:=Ec (h1.ae p1) hx
 have hh:=KF (h1.ae p1) hi
 have hc0:w2.cell? ⟨g,i*3,none⟩=some (.bool x.set):=(h2.ae p1).bT jv (x:=fB x) (by simp[hx]) 0 rfl
 have hc1:w2.cell? ⟨g,i*3+1,none⟩=some (.int .u64 x.left):=(h2.ae p1).bT jv (x:=fB x) (by simp[hx]) 1 rfl
 have hc2:w2.cell? ⟨g,i*3+2,none⟩=some (.int .u32 x.cycle):=(h2.ae p1).bT jv (x:=fB x) (by simp[hx]) 2 rfl
 have e2:(i:Int)<(s.ag.length:Int):=by omega
 have fc_:=h2.facts
 clear hx
 rcases x with⟨st,lf,cy⟩
 cases st
 ·have h3:=h1.fill [.bool false,.int .u64 0,.int .u32 0] rfl
  simp only[dm]at h3
  go_wp2_with (go_at_call 352;refine bW hh ?_)
  have hcc:=h3.cells
  refine bodyPost_ret (v:=eX.of ⟨false,lf,cy⟩) (by simp[results,results261,go_sem,hcc,eX.of,eX.off,fB]) rfl ?_
  exact⟨rfl,h3.drop⟩
 ·have h3:=h1.fill [.bool true,.int .u64 lf,.int .u32 cy] rfl
  simp only[dm]at h3
  go_wp2_with (go_at_call 352;refine bW hh ?_)
  have hcc:=h3.cells
  refine bodyPost_ret (v:=eX.of ⟨true,lf,cy⟩) (by simp[results,results261,go_sem,hcc,eX.of,fB]) rfl ?_
  exact⟨rfl,h3.drop⟩
theorem Rn {i:Nat} {x:eX} (h:In w0 w (lY r s::l)) (hx:s.ag[i]? =some x):
 aW 122 #[r,.int .i64 i] w w0 (if x.set then .tuple #[.int .u64 x.left,.int .i64 0] else .tuple #[.int .u64 0,.int .i64 5]) (lY r s::l):=by
 have ho:=Xy h hx
 rcases x with⟨st,lf,cy⟩
 cases st
 all_goals simp only[eX.of,fB,eX.off,Bool.false_eq_true,if_false,if_true]at ho
 ·go_enter func122,ntmps122
  go_upto_region 2 with(go_at_call 261;refine bF ho ?_;intro w2 h2)
  have h3:=h2.alloc (PQ false 0 0)
  go_wp2_with fail
  go_ret2
  exact⟨rfl,h3.drop⟩
 ·go_enter func122,ntmps122
  go_upto_region 2 with(go_at_call 261;refine bF ho ?_;intro w2 h2)
  have h3:=h2.alloc (PQ true lf cy)
  go_wp2_with fail
  go_ret2
  exact⟨rfl,h3.drop⟩
theorem VJ {i:Nat} {x:eX} (h:In w0 w (lY r s::l)) (hx:s.ag[i]? =some x):
 aW 123 #[r,.int .i64 i] w w0 (if x.set then .tuple #[.int .u32 x.cycle,.int .i64 0] else .tuple #[.int .u32 0,.int .i64 5]) (lY r s::l):=by
 have ho:=Xy h hx
 rcases x with⟨st,lf,cy⟩
 cases st
 all_goals simp only[eX.of,fB,eX.off,Bool.false_eq_true,if_false,if_true]at ho
 ·go_enter func123,ntmps123
  go_upto_region 2 with(go_at_call 261;refine bF ho ?_;intro w2 h2)
  have h3:=h2.alloc (PQ false 0 0)
  go_wp2_with fail
  go_ret2
  exact⟨rfl,h3.drop⟩
 ·go_enter func123,ntmps123
  go_upto_region 2 with(go_at_call 261;refine bF ho ?_;intro w2 h2)
  have h3:=h2.alloc (PQ true lf cy)
  go_wp2_with fail
  go_ret2
  exact⟨rfl,h3.drop⟩
def eX.cancel (x:eX):eX:=if x.set then .off else x
theorem eX.VU {s:dS} (hp:s.Ok):0≤eX.off.left∧eX.off.left≤s.most+1∧0≤eX.off.cycle∧eX.off.cycle≤s.most∧(eX.off.set=true→1≤eX.off.left):=by
 have:=hp.le1;have:=hp.WP
 refine⟨by decide,?_,by decide,?_,fun h=>by cases h⟩
 ·show(0:Int)≤s.most+1;omega
 ·show(0:Int)≤s.most;omega
theorem Tt {i:Nat} {x:eX} (h:In w0 w (lY r s::l)) (hx:s.ag[i]? =some x):
 aW 389 #[r,.int .i64 i] w w0 (if x.set then .int .i64 0 else .int .i64 5) (lY r {s with ag:=s.ag.set i x.cancel}::l):=by
 have ho:=Xy h hx
 rcases x with⟨st,lf,cy⟩
 cases st
 all_goals simp only[eX.of,fB,eX.off,Bool.false_eq_true,if_false,if_true]at ho
 ·go_enter func389,ntmps389
  go_upto_region 2 with(go_at_call 261;refine bF ho ?_;intro w2 h2)
  have h3:=h2.alloc (PQ false 0 0)
  go_wp2_with fail
  go_ret
  refine⟨rfl,?_⟩
  have e:s.ag.set i (eX.cancel ⟨false,lf,cy⟩)=s.ag:=by
   obtain⟨hi,e⟩:=List.getElem?_eq_some_iff.1 hx
   have:eX.cancel ⟨false,lf,cy⟩=s.ag[i]:=by rw[e];rfl
   rw[this,List.set_getElem_self]
  rw[e]
  exact h3.drop
 ·go_enter func389,ntmps389
  go_upto_region 2 with(go_at_call 261;refine bF ho ?_;intro w2 h2)
  have h3:=(h2.alloc (PQ true lf cy)).drop
  refine In.abs h3 ?_
  clear h3 h2 ho h
  intro w4 h4
  obtain⟨g,cap,hp,hi,hc,h5⟩:=Ec h4 hx
  have e2:(i:Int)<(s.ag.length:Int):=by omega
  have hf0:∀o,w4.frozen? ⟨g,o,none⟩=false:=fun _=>(h5.ae p1).fH
  have hcs:=fun j u hu=>(h5.ae p1).bT jv (i:=i) (x:=fB ⟨true,lf,cy⟩) (by simp[hx]) j (u:=u) hu
  have hc0:w4.cell? ⟨g,i*3,none⟩=some (.bool true):=hcs 0 _ rfl
  have hc1:w4.cell? ⟨g,i*3+1,none⟩=some (.int .u64 lf):=hcs 1 _ rfl
  have hc2:w4.cell? ⟨g,i*3+2,none⟩=some (.int .u32 cy):=hcs 2 _ rfl
  clear hcs hx
  have h6:=In.zI (slot:=fB) (size:=3) (fun _=>rfl) vg (h5.ae p1) hi eX.off
  have fc_:=h5.facts
  simp only[dm,fB,eX.off]at h6
  go_wp2_with fail
  go_ret
  exact⟨rfl,oK hp (eX.VU hp) h6⟩
end
section
variable {w0 w:World} {l:List SL} {r:Nat} {s:dS}
theorem PV {A:SL} {i:Nat} {x:eX} {cr cl:Array Value} {b:Bool} {n c:Int} (h:In w0 w (lY r s::A::l)) (hx:s.ag[i]? =some x)
 (hr:∀w v l,In w0 w (pts r (eG s v)::A::l)→Calls prog 415 cr w fun e w'=>e= .returned (.bool b)∧In w0 w' (pts r (eG s v)::A::l))
 (hl:b=true→∀w v l,In w0 w (pts r (eG s v)::A::l)→Calls prog 417 cl w fun e w'=>e= .returned (.int .u64 n)∧In w0 w' (pts r (eG s v)::A::l))
 (hok:b=true→1≤n∧n≤s.most+1∧0≤c∧c≤s.most):
 Calls prog 302 #[r,.int .i64 i,.func (.func 415) #[] cr,.func (.func 417) #[] cl,.int .u32 c] w fun e w'=>
  e= .returned (.int .i64 (if x.set then 7 else if b then 0 else 8))∧In w0 w' (lY r (if x.set|| !b then s else {s with ag:=s.ag.set i ⟨true,n,c⟩})::A::l):=by
 obtain⟨g,cap,hp,hi,hc,h2⟩:=Ec h hx
 have hh:=KF h hi
 have hc0:w.cell? ⟨g,i*3,none⟩=some (.bool x.set):=(h2.ae p1).bT jv (x:=fB x) (by simp[hx]) 0 rfl
 have e2:(i:Int)<(s.ag.length:Int):=by omega
 have fc_:=h2.facts
 rcases x with⟨st,lf,cy⟩
 go_enter func302,ntmps302
 cases st
 ·go_upto_region 5 with(go_at_call 352;refine bW hh ?_)
  have hr1:=hr _ _ _ ((h2.ae p2).ae p1)
  cases b
  ·go_wp2_with (go_at_call 415;refine bF hr1 ?_;intro w3 h3)
   go_ret
   exact⟨rfl,xw hp ((h3.ae p2).ae p1)⟩
  ·obtain⟨n0,n1,c0,c1⟩:=hok rfl
   go_upto_region 7 with(go_at_call 415;refine bF hr1 ?_;intro w3 h3)
   have h4:=h3.drew
   have hf0:∀o,w3.frozen? ⟨g,o,none⟩=false:=fun _=>(h3.ae p2).fH
   have hcs:=fun j u hu=>(h3.ae p2).bT jv (i:=i) (x:=fB ⟨false,lf,cy⟩) (by simp[hx]) j (u:=u) hu
   have hl1:=hl (by trivial) _ _ _ h4
   clear hr1 hc0 hl hr
   have fc_:=h3.facts
   have hS0:=(h4).ps [0]
   refine nK hS0 ⟨[6],[10]⟩ [.c 0 0,.c 0 1,.c 0 2,.c 2 3,.c 0 4,.c 0 5,.c 0 7,.e 6,.c 0 8,.c 0 9,.e 10] ?_
   refine nD ?_;intro K hK
   go_wp2_with (go_at_call 417;refine bF hl1 ?_;intro w5 h5)
   have hf5:∀o,w5.frozen? ⟨g,o,none⟩=false:=fun _=>(h5.ae p2).fH
   have hcs:=fun j u hu=>(h5.ae p2).bT jv (i:=i) (x:=fB ⟨false,lf,cy⟩) (by simp[hx]) j (u:=u) hu
   have hc0:w5.cell? ⟨g,i*3,none⟩=some (.bool false):=hcs 0 _ rfl
   have hc1:w5.cell? ⟨g,i*3+1,none⟩=some (.int .u64 lf):=hcs 1 _ rfl
   have hc2:w5.cell? ⟨g,i*3+2,none⟩=some (.int .u32 cy):=hcs 2 _ rfl
   have h6:=In.zI (slot:=fB) (size:=3) (fun _=>rfl) vg (h5.ae p2) hi ⟨true,n,c⟩
   simp only[dm,fB]at h6
   clear hcs
   go_wp2_with fail
   refine df hK ((h5).s) fun hS0=>?_
   refine uw ?_;intro K hK
   go_wp2_with fail
   try refine aS ?_
   go_wp2_with fail
   go_ret
   exact⟨rfl,oK hp ⟨by show 0≤n;omega,n1,c0,c1,fun _=>n0⟩ h6⟩
 ·go_wp2_with (go_at_call 352;refine bW hh ?_)
  go_ret
  exact⟨rfl,h⟩
theorem P5 {A:SL} {i:Nat} {x:eX} {cr cl:Array Value} {b:Bool} {n c:Int} (h:In w0 w (lY r s::A::l)) (hx:s.ag[i]? =some x)
 (hr:∀w v l,In w0 w (pts r (eG s v)::A::l)→Calls prog 418 cr w fun e w'=>e= .returned (.bool b)∧In w0 w' (pts r (eG s v)::A::l))
 (hl:b=true→∀w v l,In w0 w (pts r (eG s v)::A::l)→Calls prog 419 cl w fun e w'=>e= .returned (.int .u64 n)∧In w0 w' (pts r (eG s v)::A::l))
 (hok:b=true→1≤n∧n≤s.most+1∧0≤c∧c≤s.most):
 Calls prog 302 #[r,.int .i64 i,.func (.func 418) #[] cr,.func (.func 419) #[] cl,.int .u32 c] w fun e w'=>
  e= .returned (.int .i64 (if x.set then 7 else if b then 0 else 8))∧In w0 w' (lY r (if x.set|| !b then s else {s with ag:=s.ag.set i ⟨true,n,c⟩})::A::l):=by
 obtain⟨g,cap,hp,hi,hc,h2⟩:=Ec h hx
 have hh:=KF h hi
 have hc0:w.cell? ⟨g,i*3,none⟩=some (.bool x.set):=(h2.ae p1).bT jv (x:=fB x) (by simp[hx]) 0 rfl
 have e2:(i:Int)<(s.ag.length:Int):=by omega
 have fc_:=h2.facts
 rcases x with⟨st,lf,cy⟩
 go_enter func302,ntmps302
 cases st
 ·go_upto_region 5 with(go_at_call 352;refine bW hh ?_)
  have hr1:=hr _ _ _ ((h2.ae p2).ae p1)
  cases b
  ·go_wp2_with (go_at_call 418;refine bF hr1 ?_;intro w3 h3)
   go_ret
   exact⟨rfl,xw hp ((h3.ae p2).ae p1)⟩
  ·obtain⟨n0,n1,c0,c1⟩:=hok rfl
   go_upto_region 7 with(go_at_call 418;refine bF hr1 ?_;intro w3 h3)
   have h4:=h3.drew
   have hf0:∀o,w3.frozen? ⟨g,o,none⟩=false:=fun _=>(h3.ae p2).fH
   have hcs:=fun j u hu=>(h3.ae p2).bT jv (i:=i) (x:=fB ⟨false,lf,cy⟩) (by simp[hx]) j (u:=u) hu
   have hl1:=hl (by trivial) _ _ _ h4
   clear hr1 hc0 hl hr
   have fc_:=h3.facts
   have hS0:=(h4).ps [0]
   refine nK hS0 ⟨[6],[10]⟩ [.c 0 0,.c 0 1,.c 0 2,.c 2 3,.c 0 4,.c 0 5,.c 0 7,.e 6,.c 0 8,.c 0 9,.e 10] ?_
   refine nD ?_;intro K hK
   go_wp2_with (go_at_call 419;refine bF hl1 ?_;intro w5 h5)
   have hf5:∀o,w5.frozen? ⟨g,o,none⟩=false:=fun _=>(h5.ae p2).fH
   have hcs:=fun j u hu=>(h5.ae p2).bT jv (i:=i) (x:=fB ⟨false,lf,cy⟩) (by simp[hx]) j (u:=u) hu
   have hc0:w5.cell? ⟨g,i*3,none⟩=some (.bool false):=hcs 0 _ rfl
   have hc1:w5.cell? ⟨g,i*3+1,none⟩=some (.int .u64 lf):=hcs 1 _ rfl
   have hc2:w5.cell? ⟨g,i*3+2,none⟩=some (.int .u32 cy):=hcs 2 _ rfl
   have h6:=In.zI (slot:=fB) (size:=3) (fun _=>rfl) vg (h5.ae p2) hi ⟨true,n,c⟩
   simp only[dm,fB]at h6
   clear hcs
   go_wp2_with fail
   refine df hK ((h5).s) fun hS0=>?_
   refine uw ?_;intro K hK
   go_wp2_with fail
   try refine aS ?_
   go_wp2_with fail
   go_ret
   exact⟨rfl,oK hp ⟨by show 0≤n;omega,n1,c0,c1,fun _=>n0⟩ h6⟩
 ·go_wp2_with (go_at_call 352;refine bW hh ?_)
  go_ret
  exact⟨rfl,h⟩
theorem PE {A:SL} {i:Nat} {x:eX} {cr cl:Array Value} {b:Bool} {n c:Int} (h:In w0 w (lY r s::A::l)) (hx:s.ag[i]? =some x)
 (hr:∀w v l,In w0 w (pts r (eG s v)::A::l)→Calls prog 303 cr w fun e w'=>e= .returned (.bool b)∧In w0 w' (pts r (eG s v)::A::l))
 (hl:b=true→∀w v l,In w0 w (pts r (eG s v)::A::l)→Calls prog 304 cl w fun e w'=>e= .returned (.int .u64 n)∧In w0 w' (pts r (eG s v)::A::l))
 (hok:b=true→1≤n∧n≤s.most+1∧0≤c∧c≤s.most):
 Calls prog 302 #[r,.int .i64 i,.func (.func 303) #[] cr,.func (.func 304) #[] cl,.int .u32 c] w fun e w'=>
  e= .returned (.int .i64 (if x.set then 7 else if b then 0 else 8))∧In w0 w' (lY r (if x.set|| !b then s else {s with ag:=s.ag.set i ⟨true,n,c⟩})::A::l):=by
 obtain⟨g,cap,hp,hi,hc,h2⟩:=Ec h hx
 have hh:=KF h hi
 have hc0:w.cell? ⟨g,i*3,none⟩=some (.bool x.set):=(h2.ae p1).bT jv (x:=fB x) (by simp[hx]) 0 rfl
 have e2:(i:Int)<(s.ag.length:Int):=by omega
 have fc_:=h2.facts
 rcases x with⟨st,lf,cy⟩
 go_enter func302,ntmps302
 cases st
 ·go_upto_region 5 with(go_at_call 352;refine bW hh ?_)
  have hr1:=hr _ _ _ ((h2.ae p2).ae p1)
  cases b
  ·go_wp2_with (go_at_call 303;refine bF hr1 ?_;intro w3 h3)
   go_ret
   exact⟨rfl,xw hp ((h3.ae p2).ae p1)⟩
  ·obtain⟨n0,n1,c0,c1⟩:=hok rfl
   go_upto_region 7 with(go_at_call 303;refine bF hr1 ?_;intro w3 h3)
   have h4:=h3.drew
   have hf0:∀o,w3.frozen? ⟨g,o,none⟩=false:=fun _=>(h3.ae p2).fH
   have hcs:=fun j u hu=>(h3.ae p2).bT jv (i:=i) (x:=fB ⟨false,lf,cy⟩) (by simp[hx]) j (u:=u) hu
   have hl1:=hl (by trivial) _ _ _ h4
   clear hr1 hc0 hl hr
   have fc_:=h3.facts
   have hS0:=(h4).ps [0]
   refine nK hS0 ⟨[6],[10]⟩ [.c 0 0,.c 0 1,.c 0 2,.c 2 3,.c 0 4,.c 0 5,.c 0 7,.e 6,.c 0 8,.c 0 9,.e 10] ?_
   refine nD ?_;intro K hK
   go_wp2_with (go_at_call 304;refine bF hl1 ?_;intro w5 h5)
   have hf5:∀o,w5.frozen? ⟨g,o,none⟩=false:=fun _=>(h5.ae p2).fH
   have hcs:=fun j u hu=>(h5.ae p2).bT jv (i:=i) (x:=fB ⟨false,lf,cy⟩) (by simp[hx]) j (u:=u) hu
   have hc0:w5.cell? ⟨g,i*3,none⟩=some (.bool false):=hcs 0 _ rfl
   have hc1:w5.cell? ⟨g,i*3+1,none⟩=some (.int .u64 lf):=hcs 1 _ rfl
   have hc2:w5.cell? ⟨g,i*3+2,none⟩=some (.int .u32 cy):=hcs 2 _ rfl
   have h6:=In.zI (slot:=fB) (size:=3) (fun _=>rfl) vg (h5.ae p2) hi ⟨true,n,c⟩
   simp only[dm,fB]at h6
   clear hcs
   go_wp2_with fail
   refine df hK ((h5).s) fun hS0=>?_
   refine uw ?_;intro K hK
   go_wp2_with fail
   try refine aS ?_
   go_wp2_with fail
   go_ret
   exact⟨rfl,oK hp ⟨by show 0≤n;omega,n1,c0,c1,fun _=>n0⟩ h6⟩
 ·go_wp2_with (go_at_call 352;refine bW hh ?_)
  go_ret
  exact⟨rfl,h⟩
def KE (r b4 b6 b7:Nat) (t c:Int):SL:=bQ [pts b4 (.cells #[r] 234),pts b6 (.cells #[.int .u32 t] 38),pts b7 (.cells #[.int .u32 c] 38)]
theorem FC {b4 b6 b7:Nat} {t c:Int} (h:In w0 w (pts b4 (.cells #[r] 234)::pts b6 (Iq t)::pts b7 (Iq c)::l)):In w0 w (KE r b4 b6 b7 t c::l):=In.bn.2 h
theorem Cc {c:Int} (hp:s.Ok) (h:s.wH c=true) (h0:0≤c):0≤c∧c≤s.most:=by
 have:=hp.le1;have:=hp.WP
 simp only[dS.wH,decide_eq_true_eq]at h
 omega
theorem YC {b4 b6 b7:Nat} {t c:Int} {v:Value} (hc:0≤c) (hp:s.Ok) (h:In w0 w (pts r (eG s v)::KE r b4 b6 b7 t c::l)):
 Calls prog 415 #[b6,b4,b7] w fun e w'=>
  e= .returned (.bool (decide (1≤t∧t≤s.most)&&s.wH c))∧In w0 w' (pts r (eG s v)::KE r b4 b6 b7 t c::l):=by
 have h1:=In.bn.1 (h.ae p1)
 have hcy:=Jh hc hp h.drew
 have fc_:=h1.facts
 go_enter func415,ntmps415
 go_wp2_with fail
 by_cases h0:1≤t
 ·by_cases h2:t≤s.most
  ·refine rg ⟨[], []⟩ [.c 1 0,.c 0 1,.c 0 2,.c 1 3,.c 1 4,.c 0 5,.c 0 6,.c 1 7,.c 0 8,.c 0 9,.c 0 10,.c 1 11,.c 1 12,.e 13,.c 0 14,.c 0 15] ?_
   refine P8 ?_;intro K hK
   go_wp2_with (go_at_call 416;refine bW hcy ?_)
   go_wp2_with fail
   refine lK ?_
   go_wp2_with fail
   go_ret
   exact⟨by simp[h0,h2],h.drew⟩
  ·refine rg ⟨[], []⟩ [.c 1 0,.c 0 1,.c 0 2,.c 1 3,.c 1 4,.c 0 5,.c 0 6,.c 1 7,.c 0 8,.c 0 9,.c 0 10,.c 1 11,.c 1 12,.e 13,.c 0 14,.c 0 15] ?_
   refine P8 ?_;intro K hK
   go_wp2_with fail
   go_wp2_with fail
   refine lK ?_
   go_wp2_with fail
   go_ret
   exact⟨by simp;intros;omega,h.drew⟩
 ·refine rg ⟨[], []⟩ [.c 1 0,.c 0 1,.c 0 2,.c 1 3,.c 1 4,.c 0 5,.c 0 6,.c 1 7,.c 0 8,.c 0 9,.c 0 10,.c 1 11,.c 1 12,.e 13,.c 0 14,.c 0 15] ?_
  refine P8 ?_;intro K hK
  go_wp2_with fail
  go_wp2_with fail
  refine lK ?_
  go_wp2_with fail
  go_ret
  exact⟨by simp;intros;omega,h.drew⟩
theorem Yy {b4 b6 b7:Nat} {t c:Int} {v:Value} (h0:0≤t) (h2:t≤4294967295) (h:In w0 w (pts r (eG s v)::KE r b4 b6 b7 t c::l)):
 Calls prog 417 #[b6] w fun e w'=>
  e= .returned (.int .u64 t)∧In w0 w' (pts r (eG s v)::KE r b4 b6 b7 t c::l):=by
 have h1:=In.bn.1 (h.ae p1)
 have fc_:=h1.facts
 go_enter func417,ntmps417
 go_wp2_with fail
 go_ret
 exact⟨rfl,h⟩
theorem ZC {b4 b6 b7:Nat} {t c:Int} {v:Value} (h0:0≤t) (h2:t≤4294967295) (h:In w0 w (pts r (eG s v)::KE r b4 b6 b7 t c::l)):
 Calls prog 304 #[b6] w fun e w'=>
  e= .returned (.int .u64 t)∧In w0 w' (pts r (eG s v)::KE r b4 b6 b7 t c::l):=by
 have h1:=In.bn.1 (h.ae p1)
 have fc_:=h1.facts
 go_enter func304,ntmps304
 go_wp2_with fail
 go_ret
 exact⟨rfl,h⟩
theorem YF {b4 b6 b7:Nat} {t c:Int} {v:Value} (hc:0≤c) (hp:s.Ok) (h:In w0 w (pts r (eG s v)::KE r b4 b6 b7 t c::l)):
 Calls prog 418 #[b6,b4,b7] w fun e w'=>
  e= .returned (.bool (decide (t≤s.most)&&s.wH c))∧In w0 w' (pts r (eG s v)::KE r b4 b6 b7 t c::l):=by
 have h1:=In.bn.1 (h.ae p1)
 have hcy:=Jh hc hp h.drew
 have fc_:=h1.facts
 go_enter func418,ntmps418
 go_wp2_with fail
 by_cases h2:t≤s.most
 ·refine rg ⟨[], []⟩ [.c 1 0,.c 1 1,.c 0 2,.c 0 3,.c 1 4,.c 0 5,.c 0 6,.c 1 7,.c 1 8,.e 9,.c 0 10,.c 0 11] ?_
  refine P8 ?_;intro K hK
  go_wp2_with (go_at_call 416;refine bW hcy ?_)
  go_wp2_with fail
  refine lK ?_
  go_wp2_with fail
  go_ret
  exact⟨by simp[h2],h.drew⟩
 ·refine rg ⟨[], []⟩ [.c 1 0,.c 1 1,.c 0 2,.c 0 3,.c 1 4,.c 0 5,.c 0 6,.c 1 7,.c 1 8,.e 9,.c 0 10,.c 0 11] ?_
  refine P8 ?_;intro K hK
  go_wp2_with fail
  go_wp2_with fail
  refine lK ?_
  go_wp2_with fail
  go_ret
  exact⟨by simp;intros;omega,h.drew⟩
theorem Zw {b4 b6 b7:Nat} {t c:Int} {v:Value} (hp:s.Ok) (h0:0≤t) (h2:t≤s.most) (hin:In w0 w (pts r (eG s v)::KE r b4 b6 b7 t c::l)):
 Calls prog 419 #[b4,b6] w fun e w'=>
  e= .returned (.int .u64 (s.until t))∧In w0 w' (pts r (eG s v)::KE r b4 b6 b7 t c::l):=by
 have h1:=In.bn.1 (hin.ae p1)
 have hun:Calls prog 420 #[.int .u32 s.most,.int .u32 s.value,.int .u32 t] w.drew fun e w'=>e= .returned (.int .u64 (s.until t))∧w.drew=w':=Wx w.drew (by have:=hp.le1;have:=hp.WP;omega) hp.le3 hp.v0 hp.v1 h0 h2
 have fc_:=h1.facts
 go_enter func419,ntmps419
 go_wp2_with fail
 refine rg ⟨[], []⟩ [.c 1 0,.c 0 1,.c 0 2,.c 1 3,.c 1 4,.c 0 5,.c 0 6,.c 1 7,.c 1 8,.e 9,.c 0 10] ?_
 refine P8 ?_;intro K hK
 go_wp2_with (go_at_call 420;refine bW hun ?_)
 go_wp2_with fail
 refine lK ?_
 go_wp2_with fail
 go_ret
 exact⟨rfl,hin.drew⟩
theorem ZH {b4 b6 b7:Nat} {t c:Int} {v:Value} (h0:0≤t) (ht:t≤4294967295) (hp:s.Ok) (h:In w0 w (pts r (eG s v)::KE r b4 b6 b7 t c::l)):
 Calls prog 303 #[b6,b4,b7] w fun e w'=>
  e= .returned (.bool (decide (1≤t∧t≤s.most+1)&&decide (c≤s.most)))∧In w0 w' (pts r (eG s v)::KE r b4 b6 b7 t c::l):=by
 have h1:=In.bn.1 (h.ae p1)
 have g1:=hp.le1
 have g2:=hp.WP
 have g3:=hp.le3
 have fc_:=h1.facts
 go_enter func303,ntmps303
 go_wp2_with fail
 by_cases h0:1≤t
 ·by_cases h2:t≤s.most+1
  ·refine rg ⟨[], []⟩ [.c 1 0,.c 0 1,.c 0 2,.c 1 3,.c 0 4,.c 1 5,.c 0 6,.c 0 7,.c 1 8,.c 0 9,.c 0 10,.c 0 11,.c 0 12,.c 0 13,.c 1 14,.c 1 15,.c 0 16,.c 0 17,.c 1 18,.c 0 19,.c 0 20,.c 0 21] ?_
   refine lK ?_
   go_wp2_with fail
   go_ret
   exact⟨by simp[h0,h2],h.drew⟩
  ·refine rg ⟨[], []⟩ [.c 1 0,.c 0 1,.c 0 2,.c 1 3,.c 0 4,.c 1 5,.c 0 6,.c 0 7,.c 1 8,.c 0 9,.c 0 10,.c 0 11,.c 0 12,.c 0 13,.c 1 14,.c 1 15,.c 0 16,.c 0 17,.c 1 18,.c 0 19,.c 0 20,.c 0 21] ?_
   refine lK ?_
   go_wp2_with fail
   go_ret
   exact⟨by simp;intros;omega,h.drew⟩
 ·refine rg ⟨[], []⟩ [.c 1 0,.c 0 1,.c 0 2,.c 1 3,.c 0 4,.c 1 5,.c 0 6,.c 0 7,.c 1 8,.c 0 9,.c 0 10,.c 0 11,.c 0 12,.c 0 13,.c 1 14,.c 1 15,.c 0 16,.c 0 17,.c 1 18,.c 0 19,.c 0 20,.c 0 21] ?_
  refine lK ?_
  go_wp2_with fail
  go_ret
  exact⟨by simp;intros;omega,h.drew⟩
def dS.qX (s:dS) (t c:Int):Bool:=(decide (1≤t∧t≤s.most)&&s.wH c)
theorem abU {i:Nat} {x:eX} {t c:Int} (h:In w0 w (lY r s::l)) (hx:s.ag[i]? =some x) (ht0:0≤t) (ht1:t≤4294967295) (hc:0≤c):
 Calls prog 387 #[r,.int .i64 i,.int .u32 t,.int .u32 c] w fun e w'=>
  e= .returned (.int .i64 (if x.set then 7 else if s.qX t c then 0 else 8))∧In w0 w' (lY r (if x.set|| !s.qX t c then s else {s with ag:=s.ag.set i ⟨true,t,c⟩})::l):=by
 have hp:=(mY h).choose_spec.choose_spec.1
 obtain⟨q,hq⟩:∃q,(if x.set=true then(7:Int) else if s.qX t c=true then 0 else 8)=q:=⟨_,rfl⟩
 obtain⟨s2,hs2⟩:∃s2,(if(x.set|| !s.qX t c)=true then s else {s with ag:=s.ag.set i ⟨true,t,c⟩})=s2:=⟨_,rfl⟩
 rw[hq,hs2]
 have h1:=h.iQ (.cells #[r] 234) (Iq t) (Iq c)
 have hmf:∀(fn:Fn) (first cap:Array Value) (w:World),(Instr.makeFunc fn first cap).run prog w= .ok (.func fn first cap) w:=fun _ _ _ _=>rfl
 go_enter func387,ntmps387
 go_upto_region 1 with(fail)
 refine In.abs h1 ?_
 clear h1 h
 generalize w.heap.size=b
 intro w2 h2
 have h3:In w0 w2 (lY r s::KE r b (b+1) (b+2) t c::l):=(FC ((h2.ae p1).ae p2)).ae p1
 have fc_:=h2.facts
 have hput:=PV (A:=KE r b (b+1) (b+2) t c) (b:=s.qX t c) (n:=t) (c:=c) h3 hx (fun w v l h=>YC hc hp h) (fun _ w v l h=>Yy ht0 ht1 h) (fun hb=>by
  simp only[dS.qX,Bool.and_eq_true,decide_eq_true_eq]at hb
  have:=Cc hp hb.2 hc
  omega)
 clear hx
 rw[hq,hs2]at hput
 clear hq hs2
 go_wp2_with (go_at_call 302;refine bF hput ?_;intro w5 h5)
 go_ret
 exact⟨rfl,(h5.ae p1).drop⟩
def dS.pF (s:dS) (t c:Int):Bool:=(decide (t≤s.most)&&s.wH c)
theorem abx {i:Nat} {x:eX} {t c:Int} (h:In w0 w (lY r s::l)) (hx:s.ag[i]? =some x) (ht0:0≤t) (ht1:t≤4294967295) (hc:0≤c):
 Calls prog 388 #[r,.int .i64 i,.int .u32 t,.int .u32 c] w fun e w'=>
  e= .returned (.int .i64 (if x.set then 7 else if s.pF t c then 0 else 8))∧In w0 w' (lY r (if x.set|| !s.pF t c then s else {s with ag:=s.ag.set i ⟨true,(s.until t),c⟩})::l):=by
 have hp:=(mY h).choose_spec.choose_spec.1
 obtain⟨q,hq⟩:∃q,(if x.set=true then(7:Int) else if s.pF t c=true then 0 else 8)=q:=⟨_,rfl⟩
 obtain⟨s2,hs2⟩:∃s2,(if(x.set|| !s.pF t c)=true then s else {s with ag:=s.ag.set i ⟨true,(s.until t),c⟩})=s2:=⟨_,rfl⟩
 rw[hq,hs2]
 have h1:=h.iQ (.cells #[r] 234) (Iq t) (Iq c)
 have hmf:∀(fn:Fn) (first cap:Array Value) (w:World),(Instr.makeFunc fn first cap).run prog w= .ok (.func fn first cap) w:=fun _ _ _ _=>rfl
 go_enter func388,ntmps388
 go_upto_region 1 with(fail)
 refine In.abs h1 ?_
 clear h1 h
 generalize w.heap.size=b
 intro w2 h2
 have h3:In w0 w2 (lY r s::KE r b (b+1) (b+2) t c::l):=(FC ((h2.ae p1).ae p2)).ae p1
 have fc_:=h2.facts
 have hput:=P5 (A:=KE r b (b+1) (b+2) t c) (b:=s.pF t c) (n:=(s.until t)) (c:=c) h3 hx (fun w v l h=>YF hc hp h) (fun hb w v l h=>Zw hp ht0 (by simp only[dS.pF,Bool.and_eq_true,decide_eq_true_eq]at hb;exact hb.1) h) (fun hb=>by
  simp only[dS.pF,Bool.and_eq_true,decide_eq_true_eq]at hb
  have:=Cc hp hb.2 hc
  have:=hp.v0;have:=hp.v1;have:=hp.le1;have:=hp.WP
  unfold dS.until
  split<;>omega)
 clear hx
 rw[hq,hs2]at hput
 clear hq hs2
 go_wp2_with (go_at_call 302;refine bF hput ?_;intro w5 h5)
 go_ret
 exact⟨rfl,(h5.ae p1).drop⟩
def dS.kM (s:dS) (t c:Int):Bool:=(decide (1≤t∧t≤s.most+1)&&decide (c≤s.most))
theorem abW {i:Nat} {x:eX} {t c:Int} (h:In w0 w (lY r s::l)) (hx:s.ag[i]? =some x) (ht0:0≤t) (ht1:t≤4294967295) (hc:0≤c):
 Calls prog 210 #[r,.int .i64 i,.int .u32 t,.int .u32 c] w fun e w'=>
  e= .returned (.int .i64 (if x.set then 7 else if s.kM t c then 0 else 8))∧In w0 w' (lY r (if x.set|| !s.kM t c then s else {s with ag:=s.ag.set i ⟨true,t,c⟩})::l):=by
 have hp:=(mY h).choose_spec.choose_spec.1
 obtain⟨q,hq⟩:∃q,(if x.set=true then(7:Int) else if s.kM t c=true then 0 else 8)=q:=⟨_,rfl⟩
 obtain⟨s2,hs2⟩:∃s2,(if(x.set|| !s.kM t c)=true then s else {s with ag:=s.ag.set i ⟨true,t,c⟩})=s2:=⟨_,rfl⟩
 rw[hq,hs2]
 have h1:=h.iQ (.cells #[r] 234) (Iq t) (Iq c)
 have hmf:∀(fn:Fn) (first cap:Array Value) (w:World),(Instr.makeFunc fn first cap).run prog w= .ok (.func fn first cap) w:=fun _ _ _ _=>rfl
 go_enter func210,ntmps210
 go_upto_region 1 with(fail)
 refine In.abs h1 ?_
 clear h1 h
 generalize w.heap.size=b
 intro w2 h2
 have h3:In w0 w2 (lY r s::KE r b (b+1) (b+2) t c::l):=(FC ((h2.ae p1).ae p2)).ae p1
 have fc_:=h2.facts
 have hput:=PE (A:=KE r b (b+1) (b+2) t c) (b:=s.kM t c) (n:=t) (c:=c) h3 hx (fun w v l h=>ZH ht0 ht1 hp h) (fun _ w v l h=>ZC ht0 ht1 h) (fun hb=>by
  simp only[dS.kM,Bool.and_eq_true,decide_eq_true_eq]at hb
  omega)
 clear hx
 rw[hq,hs2]at hput
 clear hq hs2
 go_wp2_with (go_at_call 302;refine bF hput ?_;intro w5 h5)
 go_ret
 exact⟨rfl,(h5.ae p1).drop⟩
end
theorem aeg:ig prog 44 3 1 8 (.int .i64 0):=⟨underlying44,by kernel_rfl,rfl,by decide,by decide⟩
def EE (n:Nat):List Value:=[.int .i64 n]
def Nums (v:Value) (l:List Nat):SL:=Row 3 1 v l.length (l.map EE).flatten
section
variable {w0 w:World} {l:List SL} {r:Nat} {s:dS}
theorem YU (h:In w0 w (lY r s::l)):
 Calls prog 237 #[r] w fun e w'=>∃v,e= .returned v∧In w0 w' (lY r s.tick::Nums v s.aO::l):=by
 have hal:=GI h
 obtain⟨ao,cap,hp,h1⟩:=mY h
 have hnx:Calls prog 335 #[.int .u32 s.most,.int .u32 s.value] w.drew fun e w'=>e= .returned (.int .u32 s.next)∧w.drew=w':=Zl w.drew (by have:=hp.le1;have:=hp.WP;omega) hp.le3 hp.v0 hp.v1
 have fc_:=h1.facts
 go_enter func237,ntmps237
 go_wp2_with (go_at_call 260;refine bW hal ?_)
 refine rg ⟨[],[12]⟩ [.c 0 0,.c 0 1,.c 0 2,.c 0 3,.c 1 4,.c 0 5,.c 0 6,.c 0 7,.c 1 8,.e 9,.c 0 10,.c 0 11,.e 12] ?_
 refine P8 ?_;intro K hK
 go_wp2_with (go_at_call 335;refine bW hnx ?_)
 go_wp2_with fail
 refine rG ?_;intro K hK
 go_wp2_with fail
 try refine aS ?_
 have h2:In w0 _ (pts r (eG (s.kE 0) (.slice ao s.ag.length cap))::_):=h1.drew.setCell (off:=3) (.int .u32 s.next)
 go_upto_region 4 with(fail)
 have h3:In w0 _ (lY r (s.kE 0)::l):=xw (s:=s.kE 0) (v:= .slice ao s.ag.length cap) (hp.kE 0) h2
 refine In.abs (h3.dh 3 1) ?_
 clear h3 h2 h1 hal h hnx
 intro w2 h2
 have hN:s.kE s.ag.length=s.tick:=dS.TN
 obtain⟨rE,cap2,hp2,h3⟩:=mY (h2.ae p1)
 have e0:(s.kE 0).ag.length=s.ag.length:=dS.DL
 rw[e0]at h3
 have fc_:=h3.facts
 go_upto_region 6 with(fail)
 clear h3
 go_loopw [3,4,5,26] (fun u _ _ c wr=>∃k:Nat,k≤s.ag.length∧c= .int .i64 k∧
  In w0 wr (Nums u (bV eX.due 0 (s.ag.take k))::lY r (s.kE k)::l))
  (fun _ _ _ c _=>s.ag.length-(intOf c).toNat)
 case atStart=>exact⟨0,Nat.zero_le _,rfl,h2⟩
 case round=>
  obtain⟨k,hk,rfl,hw⟩:=hrel
  clear h2
  by_cases hlt:k<s.ag.length
  ·have hx:(s.kE k).ag[k]? =some s.ag[k]:=dS.Tn hlt
   have hset:=dS.SV hlt
   have hK:s.kE (k+1)= {s.kE k with ag:=(s.kE k).ag.set k s.ag[k].tick}:=by rw[hset];rfl
   clear hset
   have hpl:=pG eX.due s.ag[k] (s.ag.take k) 0
   have hpn:=gU eX.due (s.ag.take k) 0
   have hfew:=hp.few
   rw[←List.take_succ_eq_append_getElem hlt,List.length_take,Nat.min_eq_left hk,Nat.zero_add]at hpl
   obtain⟨o1,o2,o3,o4,o5⟩:=hp.al s.ag[k] (List.getElem_mem hlt)
   obtain⟨q1,q2,q3,q4,q5⟩:=eX.Q5 hp (List.getElem_mem hlt)
   obtain⟨g,cap,hpk,hi,hc,h3⟩:=Ec (hw.ae p1) hx
   have hle:=hp.le1;have hle2:=hp.WP;have hle3:=hp.le3
   have hlen:(s.kE k).ag.length=s.ag.length:=dS.DL
   have hcs:=fun(j:Nat) (u:Value) (hu:(fB s.ag[k])[j]? =some u)=>(h3.ae p1).bT jv (i:=k) (x:=fB s.ag[k]) (by simp[hx]) j (u:=u) hu
   have hf0:∀o,wr.frozen? ⟨g,o,none⟩=false:=fun _=>(h3.ae p1).fH
   generalize s.ag[k]=x at*
   rcases x with⟨st,lf,cy⟩
   have oo:0≤lf∧lf≤s.most+1∧0≤cy∧cy≤s.most∧(st=true→1≤lf):=⟨o1,o2,o3,o4,o5⟩
   clear o1 o2 o3 o4 o5
   obtain⟨o1,o2,o3,o4,o5⟩:=oo
   have hc0:wr.cell? ⟨g,k*3,none⟩=some (.bool st):=hcs 0 _ rfl
   have hc1:wr.cell? ⟨g,k*3+1,none⟩=some (.int .u64 lf):=hcs 1 _ rfl
   have hc2:wr.cell? ⟨g,k*3+2,none⟩=some (.int .u32 cy):=hcs 2 _ rfl
   clear hcs
   have h3':=h3
   rw[hlen]at h3
   have fc_:=h3.facts
   clear h3
   cases st
   ·go_wp2_with fail
    go_roundw
    case rel=>
     refine⟨k+1,hlt,by go_num,?_⟩
     obtain⟨_,e⟩:=List.getElem?_eq_some_iff.1 hx
     have e2:s.kE (k+1)=s.kE k:=by
      rw[hK]
      show {s.kE k with ag:=(s.kE k).ag.set k ⟨false,lf,cy⟩}=s.kE k
      rw[←e,List.set_getElem_self]
     rw[hpl,e2]
     simpa[eX.due]using hw
    case measure=>simp[intOf]<;>omega
   ·by_cases hlf:1<lf
    ·have h4:=In.Dc (slot:=fB) (size:=3) (fun _=>rfl) (h3'.ae p1) hx 1 (y:=⟨true,lf-1,cy⟩) (u:= .int .u64 (lf-1)) (by omega) rfl rfl
     go_wp2_with fail
     go_roundw
     case rel=>
      have et:eX.tick ⟨true,lf,cy⟩=⟨true,lf-1,cy⟩:=by simp[eX.tick,hlf]
      refine⟨k+1,hlt,by go_num,?_⟩
      rw[hpl,hK,et]
      have ed:eX.due ⟨true,lf,cy⟩=false:=by simp[eX.due];omega
      rw[ed]
      rw[et]at q1 q2 q3 q4 q5
      simp only[Bool.false_eq_true,if_false,List.append_nil]
      exact(oK hpk ⟨q1,q2,q3,q4,q5⟩ h4).ae p1
     case measure=>simp[intOf]<;>omega
    ·have e1:lf=1:=by have:=o5 rfl;omega
     subst e1
     have h4:=In.Dc (slot:=fB) (size:=3) (fun _=>rfl) (h3'.ae p1) hx 1 (y:=⟨true,0,cy⟩) (u:= .int .u64 0) (by omega) rfl rfl
     obtain⟨A,hA⟩:∃A,(s.kE k).ag=A:=⟨_,rfl⟩
     rw[hA]at h4 hi hx hlen hK
     have hx6:(A.set k ⟨true,0,cy⟩)[k]? =some ⟨true,0,cy⟩:=by simp[hi]
     have hi6:k<(A.set k ⟨true,0,cy⟩).length:=by simpa using hi
     have ed:eX.due ⟨true,1,cy⟩=true:=by simp[eX.due]
     rw[ed,if_pos rfl]at hpl
     clear h3' hw o1 o2 o5
     go_upto_region 12 with(fail)
     refine In.abs h4 ?_
     clear h4
     intro w5 h4
     go_wp2_with (with_reducible apply bH)
     unfold Stop
     refine aZ aeg ((h4.ae p2).alloc (.cells (EE k).toArray 3)) rfl rfl rfl (by simp[EE,Value.oneCell']) (by rw[List.length_take]at hpn;omega) ?_
     intro u6 w6 h6
     have hcs:=fun(j:Nat) (u:Value) (hu:(fB ⟨true,0,cy⟩)[j]? =some u)=>(h6.ae p1).bT (dL (slot:=fB) (size:=3) (fun _=>rfl) _) (i:=k) (x:=fB ⟨true,0,cy⟩) (by simp[hi]) j (u:=u) hu
     have hf6:∀o,w6.frozen? ⟨g,o,none⟩=false:=fun _=>(h6.ae p1).fH
     have afG:w6.cell? ⟨g,k*3,none⟩=some (.bool true):=hcs 0 _ rfl
     have afH:w6.cell? ⟨g,k*3+1,none⟩=some (.int .u64 0):=hcs 1 _ rfl
     have afI:w6.cell? ⟨g,k*3+2,none⟩=some (.int .u32 cy):=hcs 2 _ rfl
     clear hcs h4
     have h7:=In.Dc (slot:=fB) (size:=3) (fun _=>rfl) (h6.ae p1) hx6 1 (y:=⟨true,cy,cy⟩) (u:= .int .u64 cy) (by omega) rfl rfl
     have fc_:=h6.facts
     clear hx6 hx
     have fin:∀ {wx:World} (y:eX),(0≤y.left∧y.left≤s.most+1∧0≤y.cycle∧y.cycle≤s.most∧(y.set=true→1≤y.left))→
      In w0 wx (Row 373 3 (.slice (some ⟨g,0,none⟩) (A.set k y).length cap) (A.set k y).length ((A.set k y).map fB).flatten::Row 3 1 u6 ((bV eX.due 0 (s.ag.take k)).length+1) (((bV eX.due 0 (s.ag.take k)).map EE).flatten++EE k)::pts r (eG (s.kE k) (.slice (some ⟨g,0,none⟩) A.length cap))::l)→
      In w0 wx (Nums u6 (bV eX.due 0 (s.ag.take k)++ [k])::lY r {s.kE k with ag:=A.set k y}::l):=fun y hy h=>by
      subst hA
      have h9:=(oK hpk hy (h.ae p2 |>.ae p1)).ae p1
      unfold Nums
      simpa using h9
     by_cases hcy:cy=0
     ·subst hcy
      have h8:=In.zI (slot:=fB) (size:=3) (i:=k) (fun _=>rfl) vg h7 (by simpa using hi) eX.off
      simp only[dm,fB,eX.off]at h8
      go_wp2_with fail
      go_roundw
      case rel=>
       have et:eX.tick ⟨true,1,0⟩=eX.off:=by simp[eX.tick]
       refine⟨k+1,hlt,by go_num,?_⟩
       rw[hpl,hK,et]
       have e1:((A.set k ⟨true,0,0⟩).set k ⟨true,0,0⟩).set k ⟨false,0,0⟩=A.set k ⟨false,0,0⟩:=by rw[List.set_set,List.set_set]
       rw[e1]at h8
       exact fin eX.off (eX.VU hp) h8
      case measure=>simp[intOf]<;>omega
     ·go_wp2_with fail
      go_roundw
      case rel=>
       have et:eX.tick ⟨true,1,cy⟩=⟨true,cy,cy⟩:=by simp[eX.tick,hcy]
       refine⟨k+1,hlt,by go_num,?_⟩
       rw[hpl,hK,et]
       rw[List.set_set]at h7
       exact fin ⟨true,cy,cy⟩ ⟨o3,by show cy≤s.most+1;omega,o3,o4,fun _=>by show 1≤cy;omega⟩ h7
      case measure=>simp[intOf]<;>omega
  ·have:k=s.ag.length:=by omega
   subst this
   rw[List.take_length,hN]at hw
   go_wp2_with fail
   go_ret
   exact⟨_,rfl,hw.ae p1⟩
theorem abm {nm:Value} {most base least:Int} {n:Nat} (h:In w0 w l) (h1:1≤least) (h2:least≤most) (h3:most≤2147483647) (hn:n≤64) (hnm:nm.oneCell'=true):
 Calls prog 185 #[.agg #[nm,.int .u32 most,.int .u32 base,.int .u32 least],.int .i64 n] w fun e w'=>∃b,e= .returned (.tuple #[.pointer (some ⟨b,0,none⟩),.int .i64 0])∧In w0 w' (lY b ⟨most,least,0,List.replicate n .off⟩::l):=by
 have h4:=h.alloc (.cells #[nm,.int .u32 most,.int .u32 base,.int .u32 least] 301)
 have n1:(n:Int)≤64:=by omega
 have n2:¬((64:Int)<n):=by omega
 have n3:¬((n:Int)<0):=by omega
 have n4:¬(most<1):=by omega
 have n5:¬(2147483647<most):=by omega
 have n6:¬(least<1):=by omega
 have n7:¬(most<least):=by omega
 go_enter func185,ntmps185
 go_upto_region 1 with(fail)
 refine In.abs h4 ?_
 clear h4 h
 generalize w.heap.size=b
 intro w2 h5
 have fc_:=h5.facts
 go_upto_region 3 with(fail)
 have hS0:=(h5.drew).ps [0]
 refine nK hS0 ⟨[5],[7]⟩ [.c 0 0,.c 2 1,.c 0 2,.c 2 3,.c 0 4,.e 5,.c 0 6,.e 7,.c 0 8,.c 0 9] ?_
 refine nD ?_;intro K hK
 refine lX TAl h5.drew (c:=n) (by rfl) (by omega) (by unfold maxLen;omega) ?_
 intro g w3 h6
 go_wp2_with fail
 refine df hK ((h6).s) fun hS0=>?_
 refine uw ?_;intro K hK
 go_wp2_with fail
 refine wM ?_
 go_wp2_with fail
 go_ret2
 have h7:In w0 _ (pts w3.heap.size (eG ⟨most,least,0,List.replicate n .off⟩ (.slice (some ⟨g,0,none⟩) n n))::_):=h6.alloc (eG ⟨most,least,0,List.replicate n .off⟩ (.slice (some ⟨g,0,none⟩) n n))
 rw[kP _ _ (by decide)]at h7
 refine⟨_,rfl,xw (v:= .slice (some ⟨g,0,none⟩) n n) ⟨h1,h2,h3,Int.le_refl _,?_,by simpa using hn,fun a ha=>?_⟩ ?_⟩
 ·show(0:Int)≤most;omega
 ·rw[(List.mem_replicate.1 ha).2]
  refine⟨by decide,?_,by decide,?_,fun h=>by cases h⟩
  ·show(0:Int)≤most+1;omega
  ·show(0:Int)≤most;omega
 ·simp only[List.length_replicate,List.map_replicate]
  exact(h7.ae p2).drop
end
end Go.Proofs.YtajgpcnlehinbaaGreat
