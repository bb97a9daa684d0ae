/- Part of a proof. -/
import Derived.OwnWalkIn
import Derived.TacticsInMore
import Derived.Deep.CutRange
import Derived.Test.YtajgpcnlehinbaaGreatA05
import Derived.Test.YtajgpcnlehinbaaGreatA07
namespace Go.Proofs.YtajgpcnlehinbaaGreat
open Tryz Go.RowKit
set_option maxRecDepth 100000
set_option maxHeartbeats 60000000
set_option linter.all false
def jf (x:Int):List Value:=[.int .i64 x]
theorem qx (x:Int):∀u∈jf x,u.oneCell'=true:=by simp[jf,Value.oneCell']
structure qV (s:iI Int) (gV m:Nat) (sl:List (List Value)):Prop where
 rM:s.room≤65536
 fits:s.items.length≤s.room
 len:sl.length=m
 inside:s.items.length≤m
 small:m≤s.room
 Ei:0<m→gV<m
 aa8:m=0→gV=0
 sizes:∀x∈sl,x.length=1
 slots:∀i (hi:i<s.items.length),sl[(gV+i)%m]? =some (jf s.items[i])
def jd (room:Nat) (v:Value) (gV n:Nat) (high:Int):Obj:=
 .cells #[.bool true,.int .i64 room,v,.int .i64 gV,.int .i64 n,.int .i64 high] 258 (0,0)
def dG (r:Nat) (s:iI Int):SL:=ex fun v=>ex fun gV=>ex fun m=>ex fun sl=>ex fun high=>
 bQ [AQ (qV s gV m sl),pts r (jd s.room v gV s.items.length high),Row 3 1 v m sl.flatten]
theorem kL {w0 w:World} {l:List SL} {r:Nat} {s:iI Int} (h:In w0 w (dG r s::l)):
 ∃v gV m sl high,qV s gV m sl∧In w0 w (pts r (jd s.room v gV s.items.length high)::Row 3 1 v m sl.flatten::l):=by
 obtain⟨v,h⟩:=In.aY.1 h
 obtain⟨gV,h⟩:=In.aY.1 h
 obtain⟨m,h⟩:=In.aY.1 h
 obtain⟨sl,h⟩:=In.aY.1 h
 obtain⟨high,h⟩:=In.aY.1 h
 obtain⟨hp,h⟩:=In.dw.1 (In.bn.1 h)
 exact⟨v,gV,m,sl,high,hp,h⟩
theorem rQ {w0 w:World} {l:List SL} {r:Nat} {s:iI Int} {v gV m sl high} (hp:qV s gV m sl)
 (h:In w0 w (pts r (jd s.room v gV s.items.length high)::Row 3 1 v m sl.flatten::l)):In w0 w (dG r s::l):=
 In.aY.2 ⟨v,In.aY.2 ⟨gV,In.aY.2 ⟨m,In.aY.2 ⟨sl,In.aY.2 ⟨high,In.bn.2 (In.dw.2 ⟨hp,h⟩)⟩⟩⟩⟩⟩
theorem Es:ig prog 44 3 1 8 (.int .i64 0):=⟨underlying44,by kernel_rfl,rfl,by decide,by decide⟩
section
variable {w0 w:World} {l:List SL} {r:Nat} {s:iI Int}
theorem Aj (h:In w0 w (dG r s::l)):
 Calls prog 149 #[r] w fun e w'=>e= .returned (.bool true)∧w=w':=by
 obtain⟨v,gV,m,sl,high,ha,h⟩:=kL h
 have hr:=h.cells
 clear h
 go_enter func149,ntmps149
 go_wp2_with fail
 go_ret
 exact⟨rfl,rfl⟩
theorem VY (w:World):
 Calls prog 149 #[.pointer none] w fun e w'=>e= .returned (.bool false)∧w=w':=by
 go_enter func149,ntmps149
 go_wp2_with fail
 go_ret
 exact⟨rfl,rfl⟩
theorem VB (h:In w0 w (dG r s::l)):
 Calls prog 96 #[r] w fun e w'=>e= .returned (.int .i64 s.items.length)∧w=w':=by
 have hal:=Aj h
 obtain⟨v,gV,m,sl,high,ha,h⟩:=kL h
 have hr:=h.cells
 clear h
 go_enter func96,ntmps96
 go_wp2_with (go_at_call 149;refine bW hal ?_)
 go_ret
 exact⟨rfl,rfl⟩
theorem XK (h:In w0 w (dG r s::l)):
 Calls prog 340 #[r] w fun e w'=>∃v,e= .returned v∧
  In w0 w' (Row 3 1 v s.items.length (s.items.map jf).flatten::dG r s::l):=by
 obtain⟨v,gV,m,sl,high,ha,h⟩:=kL h
 have hr:=h.cells
 have hb:=ha.inside
 have hb2:=ha.small
 have hb3:=ha.rM
 go_enter func340,ntmps340
 go_wp2_with fail
 clear hr
 go_loopw [3,4,9] (fun u _ c wr=>∃k:Nat,k≤s.items.length∧c= .int .i64 k∧
  In w0 wr (Row 3 1 u k ((s.items.take k).map jf).flatten::pts r (jd s.room v gV s.items.length high)::Row 3 1 v m sl.flatten::l))
  (fun _ _ c _=>s.items.length-(intOf c).toNat)
 case atStart=>exact⟨0,Nat.zero_le _,rfl,h.dh _ _⟩
 case round=>
  obtain⟨k,hk,rfl,hw⟩:=hrel
  clear h
  by_cases hlt:k<s.items.length
  ·have hw1:=hw.drop
   have hm:0<m:=by omega
   rcases(hw1.ae p1).aU with⟨_,rfl,_⟩|⟨g,cap,ext,rfl,q1,q2,q3,hw2⟩
   ·omega
   have hf:=ha.Ei hm
   have hr:=hw1.cells
   have hcell:=fun(j:Nat) (u:Value) (hu:(jf s.items[k])[j]? =some u)=>(hw1.ae p1).bT ha.sizes (ha.slots k hlt) j hu
   have e4:¬m=0:=by omega
   have e3:(0:Int)≤((gV:Int)+k)%(m:Int):=Int.emod_nonneg _ (by omega)
   have e5:((gV:Int)+k)%(m:Int)<(m:Int):=Int.emod_lt_of_pos _ (by omega)
   generalize hx:s.items[k]=x at hcell
   have hc:wr.cell? ⟨g,(gV+k)%m,none⟩=some (.int .i64 x):=by simpa using hcell 0 _ rfl
   clear hw1 hw2 hcell
   go_wp2_with fail
   refine rg ⟨[],[19,20]⟩ [.c 0 0,.c 0 1,.c 0 2,.c 0 3,.c 1 4,.c 0 5,.c 0 6,.c 0 7,.c 1 8,.c 0 9,.c 0 10,.c 0 11,.c 0 12,.c 0 13,.c 1 14,.c 0 15,.c 0 16,.c 0 17,.c 1 18,.e 19,.e 20,.c 0 21] ?_
   refine rG ?_;intro K hK
   go_wp2_with fail
   refine bG rfl rfl fun K hK=>?_
   refine aZ Es (hw.alloc (.cells (jf x).toArray 3)).drew rfl rfl rfl (qx x) (by omega) ?_
   intro u' w2 h2'
   go_wp2_with fail
   refine lK ?_
   go_wp2_with fail
   go_roundw
   case rel=>exact⟨k+1,by omega,by go_num,by rw[List.take_succ_eq_append_getElem hlt,List.map_append,List.flatten_append];simpa[hx]using h2'⟩
   case measure=>simp[intOf];omega
  ·have:k=s.items.length:=by omega
   subst this
   go_wp2_with fail
   go_ret
   refine⟨_,rfl,?_⟩
   rw[List.take_length]at hw
   exact(rQ ha (hw.push p2)).ae p1
theorem MK {a m:Nat} (h:a<2*m):a%m=if a<m then a else a-m:=by
 split
 ·exact Nat.mod_eq_of_lt ‹_›
 ·rw[Nat.mod_eq_sub_mod (by omega),Nat.mod_eq_of_lt (by omega)]
theorem qV.push {gV m:Nat} {sl:List (List Value)} (h:qV s gV m sl) (hlt:s.items.length<m) (hr:s.items.length<s.room) (x:Int):
 qV {s with items:=s.items++ [x]} gV m (sl.set ((gV+s.items.length)%m) (jf x)):=by
 have hf:=h.Ei (by omega)
 refine⟨h.rM,by simp;omega,by simp[h.len],by simp;omega,h.small,h.Ei,h.aa8,vX h.sizes rfl,fun i hi=>?_⟩
 simp only[List.length_append,List.length_cons,List.length_nil]at hi
 have hj:(gV+s.items.length)%m<sl.length:=by rw[h.len];exact Nat.mod_lt _ (by omega)
 by_cases e:i=s.items.length
 ·subst e
  simp[List.getElem?_set,hj]
 ·have hi':i<s.items.length:=by omega
  have hne:(gV+s.items.length)%m≠(gV+i)%m:=by
   rw[MK (by omega),MK (by omega)]
   split<;>split<;>omega
  rw[List.getElem?_set_ne hne,h.slots i hi',List.getElem_append_left hi']
theorem qV.pop {gV m:Nat} {sl:List (List Value)} {x:Int} {xs:List Int} (h:qV s gV m sl) (hs:s.items=x::xs) (z:List Value) (hz:z.length=1):
 qV {s with items:=xs} ((gV+1)%m) m (sl.set gV z):=by
 have hl:s.items.length=xs.length+1:=by simp[hs]
 have hin:=h.inside
 have hf:=h.Ei (by omega)
 have hfit:=h.fits
 refine⟨h.rM,by simp;omega,by simp[h.len],by simp;omega,h.small,fun hm=>Nat.mod_lt _ hm,fun e=>by omega,vX h.sizes hz,fun i hi=>?_⟩
 simp only at hi
 have h2:=h.slots (i+1) (by omega)
 have hne:gV≠((gV+1)%m+i)%m:=by
  rw[MK (a:=gV+1) (by omega)]
  split<;>rw[MK (by omega)]<;>split<;>omega
 have e:((gV+1)%m+i)%m=(gV+(i+1))%m:=by rw[Nat.mod_add_mod];congr 1;omega
 rw[List.getElem?_set_ne hne,e,h2]
 simp[hs]
theorem Zm {v:Value} {gV m:Nat} {sl:List (List Value)} {high:Int} (ha:qV s gV m sl) (hf:s.items.length<s.room)
 (h:In w0 w (pts r (jd s.room v gV s.items.length high)::Row 3 1 v m sl.flatten::l)):
 Calls prog 394 #[r] w fun e w'=>e= .returned (.int .i64 0)∧∃v gV m sl high,qV s gV m sl∧s.items.length<m∧
  In w0 w' (pts r (jd s.room v gV s.items.length high)::Row 3 1 v m sl.flatten::l):=by
 have hr:=h.cells
 have hd:decide ((s.room:Int)≤(s.items.length:Int))=false:=by simp;omega
 have hin:=ha.inside
 have hsm:=ha.small
 have hrb:=ha.rM
 obtain⟨ao,cap,rfl⟩:∃ao cap,v= .slice ao m cap:=by
  rcases(h.ae p1).aU with⟨rfl,rfl,_⟩|⟨g,cap,ext,rfl,_⟩
  ·exact⟨_,_,rfl⟩
  ·exact⟨_,_,rfl⟩
 by_cases hm:s.items.length=m
 ·subst hm
  have hlist:=XK (rQ ha h).drew.drew
  go_enter func394,ntmps394
  go_wp2_with fail
  refine rg ⟨[], []⟩ [.c 0 0,.c 0 1,.c 0 2,.c 1 3,.c 0 4,.c 0 5,.c 0 6,.c 1 7,.c 0 8] ?_
  refine lK ?_
  go_wp2_with fail
  refine rg ⟨[], []⟩ [.c 0 0,.c 0 1,.c 0 2,.c 1 3,.c 0 4,.c 0 5,.c 0 6,.c 1 7,.c 0 8,.c 0 9] ?_
  refine lK ?_
  go_wp2_with fail
  refine hlist.mono ?_
  rintro _ w2 ⟨u,rfl,h2⟩
  clear hr hlist
  obtain⟨v2,fro2,m2,sl2,EM,ha2,h3⟩:=kL (h2.ae p1)
  have hr:=h3.cells
  have hfz:=h3.free
  have hmin:(if 2*(s.items.length:Int)+4<(s.room:Int) then 2*(s.items.length:Int)+4 else(s.room:Int))=((min s.room (2*s.items.length+4):Nat):Int):=by split<;>omega
  obtain⟨c,hc⟩:∃c,c=min s.room (2*s.items.length+4):=⟨_,rfl⟩
  rw[←hc]at hmin
  have kT:c≤65536∧s.items.length<c∧c≤s.room:=by omega
  clear hc
  go_wp2_with fail
  refine rg ⟨[],[12,15]⟩ [.c 0 0,.c 0 1,.c 0 2,.c 0 3,.c 1 4,.c 0 5,.c 0 6,.c 0 7,.c 1 8,.c 0 9,.c 0 10,.c 0 11,.e 12,.c 0 13,.c 0 14,.e 15] ?_
  refine rG ?_;intro K hK
  refine lX Es h3.drew rfl (by omega) (by unfold maxLen;omega) ?_
  intro g w4 h4
  clear hr hfz
  have hr:=(h4.ae p1).cells
  have hfz:=(h4.ae p1).free
  go_wp2_with fail
  refine rG ?_;intro K hK
  go_wp2_with fail
  try refine aS ?_
  have h5:In w0 _ (pts r (jd s.room (.slice (some ⟨g,0,none⟩) c c) fro2 s.items.length EM)::_):=(h4.ae p1).setCell (off:=2) (.slice (some ⟨g,0,none⟩) c c)
  refine In.abs h5 ?_
  clear h4 h5 h3 hr hfz h2
  intro w5 h5
  have hr:=h5.cells
  have hfz:=h5.free
  go_wp2_with (first|(with_reducible apply IW))
  unfold Stop
  have hlen:=(h5.ae p3).pJ
  obtain⟨uo,ucap,rfl⟩:∃uo ucap,u= .slice uo s.items.length ucap:=by
   rcases(h5.ae p3).aU with⟨rfl,e,_⟩|⟨g,cap,ext,rfl,_⟩
   ·exact⟨none,0,by rw[e]⟩
   ·exact⟨_,_,rfl⟩
  refine EF Es (src:=(s.items.map jf).flatten) (h5.ae p1) (by rfl) (by rfl) (by omega) hlen.1 ?_ ?_ ?_ ?_
  ·rintro ad rfl j x hx
   rcases(h5.ae p3).aU with⟨e,_⟩|⟨g,cap,ext,e,_⟩
   ·cases e
   ·cases e
    exact(h5.ae p3).Am j x hx
  ·rintro rfl
   rcases(h5.ae p3).aU with⟨_,e,_⟩|⟨g,cap,ext,e,_⟩
   ·exact e
   ·cases e
  ·intro x hx
   obtain⟨y,hy,hxy⟩:=List.mem_flatten.1 hx
   obtain⟨q,_,rfl⟩:=List.mem_map.1 hy
   exact qx q x hxy
  intro w6 h6
  clear hr hfz h5
  have hr:=(h6.ae p1).cells
  have hfz:=(h6.ae p1).free
  go_wp2_with fail
  go_ret
  have h7:In w0 _ (pts r (jd s.room (.slice (some ⟨g,0,none⟩) c c) 0 s.items.length EM)::_):=(h6.ae p1).setCell (off:=3) (.int .i64 0)
  refine⟨rfl,.slice (some ⟨g,0,none⟩) c c,0,c,s.items.map jf++List.replicate (c-s.items.length) (Value.cells (.int .i64 0)).toList,EM,?_,by omega,?_⟩
  ·refine⟨hrb,by omega,by simp;omega,by omega,by omega,fun h=>h,fun _=>rfl,?_,fun i hi=>?_⟩
   ·intro x hx
    rcases List.mem_append.1 hx with h8|h8
    ·obtain⟨q,_,rfl⟩:=List.mem_map.1 h8
     rfl
    ·rw[(List.mem_replicate.1 h8).2];rfl
   ·rw[Nat.zero_add,Nat.mod_eq_of_lt (by omega),List.getElem?_append_left (by simpa using hi)]
    simp[hi]
  ·have e:(List.map jf s.items).flatten++List.drop (List.map jf s.items).flatten.length (zeros (.int .i64 0) c)=(s.items.map jf++List.replicate (c-s.items.length) (Value.cells (.int .i64 0)).toList).flatten:=by
    rw[List.flatten_append,hlen.1,←FI (.int .i64 0) c s.items.length (by decide) (by omega)]
    rfl
   rw[e]at h7
   exact((h7.ae p3).drop.ae p2).drop
 ·go_enter func394,ntmps394
  go_wp2_with fail
  refine rg ⟨[], []⟩ [.c 0 0,.c 0 1,.c 0 2,.c 1 3,.c 0 4,.c 0 5,.c 0 6,.c 1 7,.c 0 8] ?_
  refine lK ?_
  go_wp2_with fail
  have hb:((s.items.length:Int)==(m:Int))=false:=by simp;omega
  refine rg ⟨[], []⟩ [.c 0 0,.c 0 1,.c 0 2,.c 1 3,.c 0 4,.c 0 5,.c 0 6,.c 1 7,.c 0 8,.c 0 9] ?_
  refine lK ?_
  go_wp2_with fail
  go_ret
  exact⟨rfl,_,gV,m,sl,high,ha,by omega,h.drew.drew⟩
theorem VT (x:Int) (h:In w0 w (dG r s::l)) (hf:s.items.length<s.room):
 aW 341 #[r,.int .i64 x] w w0 (.int .i64 0) (dG r {s with items:=s.items++ [x]}::l):=by
 have h0:=h
 have hal:=Aj h0
 obtain⟨v,gV,m,sl,high,ha,h1⟩:=kL h0
 have hsp:=Zm ha hf h1
 have hrb:=ha.rM
 clear ha
 go_enter func341,ntmps341
 go_wp2_with (go_at_call 149;refine bW hal ?_)
 refine hsp.mono ?_
 rintro _ w2 ⟨rfl,v,gV,m,sl,high,ha,hlt,h2⟩
 clear hal hsp h1
 have hb2:=ha.small
 have hm:0<m:=by omega
 have hf0:=hf
 have hf:=ha.Ei hm
 rcases(h2.ae p1).aU with⟨_,rfl,_⟩|⟨g,cap,ext,rfl,q1,q2,q3,_⟩
 ·omega
 have hr:=h2.cells
 have hxc:=trivial
 have e4:¬m=0:=by omega
 have e3:(0:Int)≤((gV:Int)+s.items.length)%(m:Int):=Int.emod_nonneg _ (by omega)
 have e5:((gV:Int)+s.items.length)%(m:Int)<(m:Int):=Int.emod_lt_of_pos _ (by omega)
 have e6:(gV+s.items.length)%m<sl.length:=by rw[ha.len];exact Nat.mod_lt _ hm
 have e7:=jW ha.sizes
 have e8:(gV+s.items.length)%m*1+1≤sl.flatten.length:=by omega
 go_wp2_with fail
 refine rg ⟨[],[21]⟩ [.c 0 0,.c 0 1,.c 0 2,.c 1 3,.c 0 4,.c 0 5,.c 0 6,.c 1 7,.c 0 8,.c 0 9,.c 0 10,.c 1 11,.c 0 12,.c 0 13,.c 0 14,.c 0 15,.c 1 16,.c 0 17,.c 0 18,.c 0 19,.c 0 20,.e 21] ?_
 refine rG ?_;intro K hK
 try refine aS ?_
 refine wpList_store_row (vs:=jf x) (off:=(gV+s.items.length)%m*1) (size:=1) (by rw[Es.sz]) (h2.drew.ae p1) (by simp[Act.eval]) (by rfl) (by rfl) e8 (qx x) ?_
 intro w3 h3
 rw[←zN ha.sizes _ e6]at h3
 clear hr e8 e7
 have hr:=(h3.ae p1).cells
 have hfz:=(h3.ae p1).free
 go_wp2_with fail
 try refine aS ?_
 go_wp2_with fail
 have h4:In w0 _ (pts r (jd s.room (.slice (some ⟨g,0,none⟩) m cap) gV (s.items.length+1) high)::_):=(h3.ae p1).setCell (off:=4) (.int .i64 ((s.items.length+1:Nat):Int))
 refine In.abs h4 ?_
 clear h4 hr hfz h3
 intro w4 h4
 have hr:=h4.cells
 have hfz:=h4.free
 obtain⟨q,hq⟩:∃q:Int,(if high<(s.items.length:Int)+1 then(s.items.length:Int)+1 else high)=q:=⟨_,rfl⟩
 refine rg ⟨[],[12]⟩ [.c 0 0,.c 0 1,.c 0 2,.c 0 3,.c 1 4,.c 0 5,.c 0 6,.c 0 7,.c 1 8,.c 0 9,.c 0 10,.c 0 11,.e 12] ?_
 refine rG ?_;intro K hK
 go_wp2_with fail
 try refine aS ?_
 go_wp2_with fail
 go_ret
 refine⟨rfl,?_⟩
 have h5:In w0 _ (pts r (jd s.room (.slice (some ⟨g,0,none⟩) m cap) gV (s.items.length+1) q)::_):=h4.drew.setCell (off:=5) (.int .i64 q)
 have e9:s.items.length+1=(s.items++ [x]).length:=by simp
 rw[e9]at h5
 exact rQ (ha.push hlt hf0 x) h5
theorem MB (h:In w0 w (dG r s::l)) (hs:s.items= []):
 aW 242 #[r] w w0 (.tuple #[(.int .i64 0),.int .i64 122]) (dG r s::l):=by
 have hal:=Aj h
 obtain⟨v,gV,m,sl,high,ha,h1⟩:=kL h
 have hr:=h1.cells
 have hn:s.items.length=0:=by simp[hs]
 clear hs
 go_enter func242,ntmps242
 go_wp2_with (go_at_call 149;refine bW hal ?_)
 go_ret2
 exact⟨rfl,h⟩
theorem U7 {x:Int} {xs:List Int} (h:In w0 w (dG r s::l)) (hs:s.items=x::xs):
 aW 242 #[r] w w0 (.tuple #[.int .i64 x,.int .i64 0]) (dG r {s with items:=xs}::l):=by
 have hal:=Aj h
 obtain⟨v,gV,m,sl,high,ha,h1⟩:=kL h
 have hn:s.items.length=xs.length+1:=by simp[hs]
 have hin:=ha.inside
 have hb2:=ha.small
 have hrb:=ha.rM
 have hm:0<m:=by omega
 have hf:=ha.Ei hm
 rcases(h1.ae p1).aU with⟨_,rfl,_⟩|⟨g,cap,ext,rfl,q1,q2,q3,_⟩
 ·omega
 have hpop:=ha.pop hs (Value.cells (.int .i64 0)).toList rfl
 have e6:gV<sl.length:=by rw[ha.len];exact hf
 have e7:=jW ha.sizes
 have e8:gV*1+1*1≤sl.flatten.length:=by omega
 have hr:=h1.cells
 have hx0:sl[gV]? =some (jf x):=by
  have:=ha.slots 0 (by omega)
  rw[Nat.add_zero,Nat.mod_eq_of_lt hf]at this
  rw[this];simp[hs]
 have hcell:=fun(j:Nat) (u:Value) (hu:(jf x)[j]? =some u)=>(h1.ae p1).bT ha.sizes hx0 j hu
 have hc:w.cell? ⟨g,gV,none⟩=some (.int .i64 x):=by simpa using hcell 0 _ rfl
 have e4:¬m=0:=by omega
 have e10:¬cap=gV:=by omega
 have e11:(gV:Int)+1≤(cap:Int):=by omega
 have e9:xs.length+1-1=xs.length:=by omega
 clear hs hx0 hcell
 have hd:((xs.length:Int)+1==0)=false:=by simp;omega
 go_enter func242,ntmps242
 go_wp2_with (go_at_call 149;refine bW hal ?_)
 clear hal
 refine rg ⟨[], []⟩ [.c 0 0,.c 0 1,.c 0 2,.c 1 3,.c 0 4,.c 0 5,.c 0 6,.c 1 7,.c 0 8,.c 1 9,.c 0 10] ?_
 refine lK ?_
 go_wp2_with fail
 have e12:(0:Int)≤(gV:Int)+1:=by omega
 refine rg ⟨[],[14]⟩ [.c 0 0,.c 0 1,.c 0 2,.c 1 3,.c 0 4,.c 0 5,.c 0 6,.c 1 7,.c 0 8,.c 0 9,.c 0 10,.c 1 11,.c 0 12,.c 0 13,.e 14] ?_
 refine rG ?_;intro K hK
 try refine aS ?_
 refine uC Es (off:=gV*1) (m:=1) (c:=cap-gV) ((h1.ae p1).drew.drew) (by simp[Act.eval]) (by omega) e8 (uI (by decide) (by decide)) ?_
 intro w2 h2
 rw[kP (.int .i64 0) 1 (by decide),Nat.one_mul]at h2
 have e13:(List.replicate 1 (Value.cells (.int .i64 0)).toList).flatten=(Value.cells (.int .i64 0)).toList:=rfl
 rw[e13,←zN ha.sizes _ e6]at h2
 clear hr h1 hc
 have hr:=(h2.ae p1).cells
 have hfz:=(h2.ae p1).free
 go_wp2_with fail
 try refine aS ?_
 go_wp2_with fail
 refine rg ⟨[],[14]⟩ [.c 0 0,.c 0 1,.c 0 2,.c 0 3,.c 1 4,.c 0 5,.c 0 6,.c 0 7,.c 0 8,.c 1 9,.c 0 10,.c 0 11,.c 0 12,.c 0 13,.e 14] ?_
 refine rG ?_;intro K hK
 go_wp2_with fail
 try refine aS ?_
 go_wp2_with fail
 go_ret2
 refine⟨rfl,?_⟩
 have e5:((gV:Int)+1)%(m:Int)=(((gV+1)%m:Nat):Int):=by rw[Int.natCast_emod];rfl
 rw[e5]
 have h4:In w0 _ (pts r (jd s.room (.slice (some ⟨g,0,none⟩) m cap) ((gV+1)%m) xs.length high)::_):=
  ((h2.ae p1).setCell (off:=3) (.int .i64 (((gV+1)%m:Nat):Int))).setCell (off:=4) (.int .i64 xs.length)
 exact rQ hpop h4.drew
theorem QS (h:In w0 w (dG r s::l)):
 aW 310 #[r] w w0 (.int .i64 s.items.length) (dG r {s with items:= []}::l):=by
 have hal:=Aj h
 obtain⟨v,gV,m,sl,high,ha,h1⟩:=kL h
 have hr:=h1.cells
 have fin:∀wx v' (sl':List (List Value)),sl'.length=m→(∀x∈sl',x.length=1)→In w0 wx (pts r (jd s.room v' gV s.items.length high)::Row 3 1 v' m sl'.flatten::l)→
  In w0 ((wx.setCell ⟨r,4,none⟩ (.int .i64 0)).setCell ⟨r,3,none⟩ (.int .i64 0)) (dG r {s with items:= []}::l):=fun wx v' sl' hp1 hp2 hx=>by
  have h5:In w0 _ (pts r (jd s.room v' 0 0 high)::_):=(hx.setCell (off:=4) (.int .i64 0)).setCell (off:=3) (.int .i64 0)
  exact rQ (s:={s with items:= []}) (gV:=0) (sl:=sl') ⟨ha.rM,by simp,hp1,by simp,ha.small,fun h=>h,fun _=>rfl,hp2,fun i hi=>by simp at hi⟩ h5
 obtain⟨ao,cap,rfl⟩:∃ao cap,v= .slice ao m cap:=by
  rcases(h1.ae p1).aU with⟨rfl,rfl,_⟩|⟨g,cap,ext,rfl,_⟩
  ·exact⟨_,_,rfl⟩
  ·exact⟨_,_,rfl⟩
 by_cases hm:m=0
 ·have fin':=fin _ _ _ ha.len ha.sizes h1
  clear fin
  subst hm
  have hfz:=h1.free
  go_enter func310,ntmps310
  go_wp2_with (first|(go_at_call 149;refine bW hal ?_)|(with_reducible apply uS))
  unfold Stop
  refine AA Es (by rfl) ?_
  go_wp2_with fail
  go_ret
  exact⟨rfl,fin'⟩
 ·rcases(h1.ae p1).aU with⟨_,rfl,_⟩|⟨g,cap,ext,e,q1,q2,q3,_⟩
  ·omega
  cases e
  have e7:=jW ha.sizes
  have e8:0+m*1≤sl.flatten.length:=by rw[e7,ha.len];omega
  go_enter func310,ntmps310
  go_wp2_with (first|(go_at_call 149;refine bW hal ?_)|(with_reducible apply uS))
  unfold Stop
  refine uC Es (off:=0) (m:=m) (c:=cap) (h1.ae p1) (by rfl) (by omega) e8 (uI (by decide) (by decide)) ?_
  intro w2 h2
  have e9:sl.flatten.take 0++zeros (.int .i64 0) m++sl.flatten.drop (0+m*1)=(List.replicate m (Value.cells (.int .i64 0)).toList).flatten:=by
   rw[List.take_zero,List.drop_eq_nil_of_le (by rw[e7,ha.len];omega),List.nil_append,List.append_nil,kP (.int .i64 0) m (by decide)]
  rw[e9]at h2
  have fin':=fin w2 _ (List.replicate m (Value.cells (.int .i64 0)).toList) (by simp) (fun x hx=>by rw[(List.mem_replicate.1 hx).2];rfl) (h2.ae p1)
  have hr:=(h2.ae p1).cells
  have hfz:=(h2.ae p1).free
  clear h2 e9 fin
  go_wp2_with fail
  go_ret
  exact⟨rfl,fin'⟩
theorem aar (h:In w0 w l) (n:Nat) (hn:n≤65536):
 Calls prog 70 #[.int .i64 n] w fun e w'=>∃r,e= .returned (.tuple #[.pointer (some ⟨r,0,none⟩),.int .i64 0])∧In w0 w' (dG r ⟨n, []⟩::l):=by
 have h1:In w0 _ (pts w.heap.size (jd n (.slice none 0 0) 0 0 0)::l):=h.alloc (jd n (.slice none 0 0) 0 0 0)
 have h2:=(h1.drop.dh 3 1)
 have hd1:decide ((n:Int)<0)=false:=by simp
 have hd2:decide ((65536:Int)<(n:Int))=false:=by simp;omega
 go_enter func70,ntmps70
 go_wp2_with fail
 go_ret2
 refine⟨w.heap.size,rfl,rQ (v:= .slice none 0 0) (gV:=0) (m:=0) (sl:= []) (high:=0) ⟨by simpa using hn,by simp,rfl,by simp,by simp,by simp,fun _=>rfl,by simp,fun i hi=>by simp at hi⟩ ?_⟩
 exact(h1.dh 3 1).ae p1
theorem aat (p:Option Addr) (h:In w0 w l):
 Calls prog 239 #[.pointer p] w fun e w'=>∃b,e= .returned (.func (.func 339) #[] #[.pointer (some ⟨b,0,none⟩)])∧
  In w0 w' (pts b (.cells #[.pointer p] 88 (0,0))::l):=by
 have h1:=h.alloc (.cells #[.pointer p] 88)
 have hmf:∀(fn:Fn) (first cap:Array Value) (w:World),(Instr.makeFunc fn first cap).run prog w= .ok (.func fn first cap) w:=fun _ _ _ _=>rfl
 go_enter func239,ntmps239
 go_wp2_with fail
 go_ret
 exact⟨_,rfl,h1⟩
theorem Vb (s:iI Int) (r b:Nat):Iter prog 339 #[b] (fun x=> .int .i64 x) s.items
 (star (dG r s) (pts b (.cells #[r] 88 (0,0)))):=by
 intro lp J Jx L w0 w hY h
 have h1:=In.dP.1 h
 have hal:=Aj h1
 have hls:=XK h1
 have hr:=(h1.ae p1).cells
 go_enter func339,ntmps339
 go_wp2_with (go_at_call 149;refine bW hal ?_)
 refine hls.mono ?_
 rintro _ w2 ⟨u,rfl,h2⟩
 clear hr hal hls
 obtain⟨uo,ucap,rfl⟩:∃uo ucap,u= .slice uo s.items.length ucap:=by
  rcases h2.aU with⟨rfl,e,_⟩|⟨g,cap,ext,rfl,_⟩
  ·exact⟨none,0,by rw[e]⟩
  ·exact⟨_,_,rfl⟩
 go_wp2_with fail
 have h3:=h2.ae p3
 clear h2 h h1
 go_loopw [4,11] (fun _ c wr=>∃k:Nat,k≤s.items.length∧c= .int .i64 k∧
  In w0 wr (J (s.items.take k)::Row 3 1 (.slice uo s.items.length ucap) s.items.length (s.items.map jf).flatten::dG r s::pts b (.cells #[r] 88 (0,0))::L))
  (fun _ c _=>s.items.length-(intOf c).toNat)
 case atStart=>exact⟨0,Nat.zero_le _,rfl,h3⟩
 case round=>
  obtain⟨k,hk,rfl,hw⟩:=hrel
  clear h3
  by_cases hlt:k<s.items.length
  ·have hw1:=hw.ae p1
   rcases hw1.aU with⟨_,e,_⟩|⟨g,cap,ext,e,q1,q2,q3,_⟩
   ·omega
   cases e
   have hcell:=fun(j:Nat) (u:Value) (hu:(jf s.items[k])[j]? =some u)=>hw1.bT (sl:=s.items.map jf) (i:=k) (x:=jf s.items[k]) (by intro x hx;obtain⟨q,_,rfl⟩:=List.mem_map.1 hx;rfl) (by simp[hlt]) j hu
   have hpre:s.items.take k++ [s.items[k]]<+:s.items:=by rw[←List.take_succ_eq_append_getElem hlt];exact List.take_prefix _ _
   obtain⟨fn,tmps,assign,body,hy,hR⟩:=hY _ _ _ _ hpre hw
   have hw64:wrap64 ((k:Int)+1)=((k+1:Nat):Int):=by
    have hm:maxLen<2 ^ 63:=by decide
    unfold wrap64;omega
   have hnext:s.items.take (k+1)=s.items.take k++ [s.items[k]]:=List.take_succ_eq_append_getElem hlt
   generalize hx:s.items[k]=x at*
   have hc:wr.cell? ⟨g,k,none⟩=some (.int .i64 x):=by simpa using hcell 0 _ rfl
   clear hcell
   go_upto_region 4 with(fail)
   refine(wpIn_wide (n:=0)).1 ?_
   gi_wp2
   refine⟨rfl,hR.mono ?_⟩
   rintro e w3 (⟨rfl,h4⟩|⟨rfl,h4⟩)
   all_goals skip
   ·gi_wp2
    go_wp2_with fail
    go_roundw
    case rel=>exact⟨k+1,hlt,by rw[hw64],by rw[hnext];exact h4⟩
    case measure=>(have hw64:wrap64 ((k:Int)+1)=((k+1:Nat):Int):=hw64;simp only[hw64];simp[intOf];omega)
   ·gi_wp2
    go_wp2_with fail
    refine bodyPost_ret (results_none rfl _ _ _) rfl ?_
    have h6:=(h4.ae p1).drop
    exact⟨⟨_,rfl⟩,.inr ⟨_,hpre,In.dP.2 ((h6.ae p2).ae p2)⟩⟩
  ·have:k=s.items.length:=by omega
   subst this
   rw[List.take_length]at hw
   go_wp2_with fail
   go_end0
   have h6:=(hw.ae p1).drop
   exact⟨⟨_,rfl⟩,.inl (In.dP.2 ((h6.ae p2).ae p2))⟩
end
def jc (x:aK):List Value:=[.int .i64 x.kind,.int .i64 x.id,.int .i64 x.status,.int .i64 x.service,.int .u32 x.jC]
theorem xk (x:aK):∀u∈jc x,u.oneCell'=true:=by simp[jc,Value.oneCell']
structure ru (s:iI aK) (gV m:Nat) (sl:List (List Value)):Prop where
 rM:s.room≤65536
 fits:s.items.length≤s.room
 len:sl.length=m
 inside:s.items.length≤m
 small:m≤s.room
 Ei:0<m→gV<m
 aa8:m=0→gV=0
 sizes:∀x∈sl,x.length=5
 slots:∀i (hi:i<s.items.length),sl[(gV+i)%m]? =some (jc s.items[i])
def iT (room:Nat) (v:Value) (gV n:Nat) (high:Int):Obj:=
 .cells #[.bool true,.int .i64 room,v,.int .i64 gV,.int .i64 n,.int .i64 high] 256 (0,0)
def dV (r:Nat) (s:iI aK):SL:=ex fun v=>ex fun gV=>ex fun m=>ex fun sl=>ex fun high=>
 bQ [AQ (ru s gV m sl),pts r (iT s.room v gV s.items.length high),Row 42 5 v m sl.flatten]
theorem oz {w0 w:World} {l:List SL} {r:Nat} {s:iI aK} (h:In w0 w (dV r s::l)):
 ∃v gV m sl high,ru s gV m sl∧In w0 w (pts r (iT s.room v gV s.items.length high)::Row 42 5 v m sl.flatten::l):=by
 obtain⟨v,h⟩:=In.aY.1 h
 obtain⟨gV,h⟩:=In.aY.1 h
 obtain⟨m,h⟩:=In.aY.1 h
 obtain⟨sl,h⟩:=In.aY.1 h
 obtain⟨high,h⟩:=In.aY.1 h
 obtain⟨hp,h⟩:=In.dw.1 (In.bn.1 h)
 exact⟨v,gV,m,sl,high,hp,h⟩
theorem pX {w0 w:World} {l:List SL} {r:Nat} {s:iI aK} {v gV m sl high} (hp:ru s gV m sl)
 (h:In w0 w (pts r (iT s.room v gV s.items.length high)::Row 42 5 v m sl.flatten::l)):In w0 w (dV r s::l):=
 In.aY.2 ⟨v,In.aY.2 ⟨gV,In.aY.2 ⟨m,In.aY.2 ⟨sl,In.aY.2 ⟨high,In.bn.2 (In.dw.2 ⟨hp,h⟩)⟩⟩⟩⟩⟩
theorem Yi:ig prog 43 42 5 40 (.agg #[.int .i64 0,.int .i64 0,.int .i64 0,.int .i64 0,.int .u32 0]):=⟨underlying43,by kernel_rfl,rfl,by decide,by decide⟩
section
variable {w0 w:World} {l:List SL} {r:Nat} {s:iI aK}
theorem BX (h:In w0 w (dV r s::l)):
 Calls prog 148 #[r] w fun e w'=>e= .returned (.bool true)∧w=w':=by
 obtain⟨v,gV,m,sl,high,ha,h⟩:=oz h
 have hr:=h.cells
 clear h
 go_enter func148,ntmps148
 go_wp2_with fail
 go_ret
 exact⟨rfl,rfl⟩
theorem acT (h:In w0 w (dV r s::l)):
 Calls prog 95 #[r] w fun e w'=>e= .returned (.int .i64 s.items.length)∧w=w':=by
 have hal:=BX h
 obtain⟨v,gV,m,sl,high,ha,h⟩:=oz h
 have hr:=h.cells
 clear h
 go_enter func95,ntmps95
 go_wp2_with (go_at_call 148;refine bW hal ?_)
 go_ret
 exact⟨rfl,rfl⟩
theorem aa4 (h:In w0 w (dV r s::l)):
 Calls prog 392 #[r] w fun e w'=>∃v,e= .returned v∧
  In w0 w' (Row 42 5 v s.items.length (s.items.map jc).flatten::dV r s::l):=by
 obtain⟨v,gV,m,sl,high,ha,h⟩:=oz h
 have hr:=h.cells
 have hb:=ha.inside
 have hb2:=ha.small
 have hb3:=ha.rM
 go_enter func392,ntmps392
 go_wp2_with fail
 clear hr
 go_loopw [3,4,9] (fun u _ c wr=>∃k:Nat,k≤s.items.length∧c= .int .i64 k∧
  In w0 wr (Row 42 5 u k ((s.items.take k).map jc).flatten::pts r (iT s.room v gV s.items.length high)::Row 42 5 v m sl.flatten::l))
  (fun _ _ c _=>s.items.length-(intOf c).toNat)
 case atStart=>exact⟨0,Nat.zero_le _,rfl,h.dh _ _⟩
 case round=>
  obtain⟨k,hk,rfl,hw⟩:=hrel
  clear h
  by_cases hlt:k<s.items.length
  ·have hw1:=hw.drop
   have hm:0<m:=by omega
   rcases(hw1.ae p1).aU with⟨_,rfl,_⟩|⟨g,cap,ext,rfl,q1,q2,q3,hw2⟩
   ·omega
   have hf:=ha.Ei hm
   have hr:=hw1.cells
   have hcell:=fun(j:Nat) (u:Value) (hu:(jc s.items[k])[j]? =some u)=>(hw1.ae p1).bT ha.sizes (ha.slots k hlt) j hu
   have e4:¬m=0:=by omega
   have e3:(0:Int)≤((gV:Int)+k)%(m:Int):=Int.emod_nonneg _ (by omega)
   have e5:((gV:Int)+k)%(m:Int)<(m:Int):=Int.emod_lt_of_pos _ (by omega)
   generalize hx:s.items[k]=x at hcell
   have hc0:wr.cell? ⟨g,(gV+k)%m*5,none⟩=some (.int .i64 x.kind):=hcell 0 _ rfl;have hc1:wr.cell? ⟨g,(gV+k)%m*5+1,none⟩=some (.int .i64 x.id):=hcell 1 _ rfl;have hc2:wr.cell? ⟨g,(gV+k)%m*5+2,none⟩=some (.int .i64 x.status):=hcell 2 _ rfl;have hc3:wr.cell? ⟨g,(gV+k)%m*5+3,none⟩=some (.int .i64 x.service):=hcell 3 _ rfl;have hc4:wr.cell? ⟨g,(gV+k)%m*5+4,none⟩=some (.int .u32 x.jC):=hcell 4 _ rfl
   clear hw1 hw2 hcell
   go_wp2_with fail
   refine rg ⟨[],[19,20]⟩ [.c 0 0,.c 0 1,.c 0 2,.c 0 3,.c 1 4,.c 0 5,.c 0 6,.c 0 7,.c 1 8,.c 0 9,.c 0 10,.c 0 11,.c 0 12,.c 0 13,.c 1 14,.c 0 15,.c 0 16,.c 0 17,.c 1 18,.e 19,.e 20,.c 0 21] ?_
   refine rG ?_;intro K hK
   go_wp2_with fail
   refine bG rfl rfl fun K hK=>?_
   refine aZ Yi (hw.alloc (.cells (jc x).toArray 42)).drew rfl rfl rfl (xk x) (by omega) ?_
   intro u' w2 h2'
   go_wp2_with fail
   refine lK ?_
   go_wp2_with fail
   go_roundw
   case rel=>exact⟨k+1,by omega,by go_num,by rw[List.take_succ_eq_append_getElem hlt,List.map_append,List.flatten_append];simpa[hx]using h2'⟩
   case measure=>simp[intOf];omega
  ·have:k=s.items.length:=by omega
   subst this
   go_wp2_with fail
   go_ret
   refine⟨_,rfl,?_⟩
   rw[List.take_length]at hw
   exact(pX ha (hw.push p2)).ae p1
theorem ru.push {gV m:Nat} {sl:List (List Value)} (h:ru s gV m sl) (hlt:s.items.length<m) (hr:s.items.length<s.room) (x:aK):
 ru {s with items:=s.items++ [x]} gV m (sl.set ((gV+s.items.length)%m) (jc x)):=by
 have hf:=h.Ei (by omega)
 refine⟨h.rM,by simp;omega,by simp[h.len],by simp;omega,h.small,h.Ei,h.aa8,vX h.sizes rfl,fun i hi=>?_⟩
 simp only[List.length_append,List.length_cons,List.length_nil]at hi
 have hj:(gV+s.items.length)%m<sl.length:=by rw[h.len];exact Nat.mod_lt _ (by omega)
 by_cases e:i=s.items.length
 ·subst e
  simp[List.getElem?_set,hj]
 ·have hi':i<s.items.length:=by omega
  have hne:(gV+s.items.length)%m≠(gV+i)%m:=by
   rw[MK (by omega),MK (by omega)]
   split<;>split<;>omega
  rw[List.getElem?_set_ne hne,h.slots i hi',List.getElem_append_left hi']
theorem ru.pop {gV m:Nat} {sl:List (List Value)} {x:aK} {xs:List aK} (h:ru s gV m sl) (hs:s.items=x::xs) (z:List Value) (hz:z.length=5):
 ru {s with items:=xs} ((gV+1)%m) m (sl.set gV z):=by
 have hl:s.items.length=xs.length+1:=by simp[hs]
 have hin:=h.inside
 have hf:=h.Ei (by omega)
 have hfit:=h.fits
 refine⟨h.rM,by simp;omega,by simp[h.len],by simp;omega,h.small,fun hm=>Nat.mod_lt _ hm,fun e=>by omega,vX h.sizes hz,fun i hi=>?_⟩
 simp only at hi
 have h2:=h.slots (i+1) (by omega)
 have hne:gV≠((gV+1)%m+i)%m:=by
  rw[MK (a:=gV+1) (by omega)]
  split<;>rw[MK (by omega)]<;>split<;>omega
 have e:((gV+1)%m+i)%m=(gV+(i+1))%m:=by rw[Nat.mod_add_mod];congr 1;omega
 rw[List.getElem?_set_ne hne,e,h2]
 simp[hs]
theorem YP {v:Value} {gV m:Nat} {sl:List (List Value)} {high:Int} (ha:ru s gV m sl) (hf:s.items.length<s.room)
 (h:In w0 w (pts r (iT s.room v gV s.items.length high)::Row 42 5 v m sl.flatten::l)):
 Calls prog 390 #[r] w fun e w'=>e= .returned (.int .i64 0)∧∃v gV m sl high,ru s gV m sl∧s.items.length<m∧
  In w0 w' (pts r (iT s.room v gV s.items.length high)::Row 42 5 v m sl.flatten::l):=by
 have hr:=h.cells
 have hd:decide ((s.room:Int)≤(s.items.length:Int))=false:=by simp;omega
 have hin:=ha.inside
 have hsm:=ha.small
 have hrb:=ha.rM
 obtain⟨ao,cap,rfl⟩:∃ao cap,v= .slice ao m cap:=by
  rcases(h.ae p1).aU with⟨rfl,rfl,_⟩|⟨g,cap,ext,rfl,_⟩
  ·exact⟨_,_,rfl⟩
  ·exact⟨_,_,rfl⟩
 by_cases hm:s.items.length=m
 ·subst hm
  have hlist:=aa4 (pX ha h).drew.drew
  go_enter func390,ntmps390
  go_wp2_with fail
  refine rg ⟨[], []⟩ [.c 0 0,.c 0 1,.c 0 2,.c 1 3,.c 0 4,.c 0 5,.c 0 6,.c 1 7,.c 0 8] ?_
  refine lK ?_
  go_wp2_with fail
  refine rg ⟨[], []⟩ [.c 0 0,.c 0 1,.c 0 2,.c 1 3,.c 0 4,.c 0 5,.c 0 6,.c 1 7,.c 0 8,.c 0 9] ?_
  refine lK ?_
  go_wp2_with fail
  refine hlist.mono ?_
  rintro _ w2 ⟨u,rfl,h2⟩
  clear hr hlist
  obtain⟨v2,fro2,m2,sl2,EM,ha2,h3⟩:=oz (h2.ae p1)
  have hr:=h3.cells
  have hfz:=h3.free
  have hmin:(if 2*(s.items.length:Int)+4<(s.room:Int) then 2*(s.items.length:Int)+4 else(s.room:Int))=((min s.room (2*s.items.length+4):Nat):Int):=by split<;>omega
  obtain⟨c,hc⟩:∃c,c=min s.room (2*s.items.length+4):=⟨_,rfl⟩
  rw[←hc]at hmin
  have kT:c≤65536∧s.items.length<c∧c≤s.room:=by omega
  clear hc
  go_wp2_with fail
  refine rg ⟨[],[12,15]⟩ [.c 0 0,.c 0 1,.c 0 2,.c 0 3,.c 1 4,.c 0 5,.c 0 6,.c 0 7,.c 1 8,.c 0 9,.c 0 10,.c 0 11,.e 12,.c 0 13,.c 0 14,.e 15] ?_
  refine rG ?_;intro K hK
  refine lX Yi h3.drew rfl (by omega) (by unfold maxLen;omega) ?_
  intro g w4 h4
  clear hr hfz
  have hr:=(h4.ae p1).cells
  have hfz:=(h4.ae p1).free
  go_wp2_with fail
  refine rG ?_;intro K hK
  go_wp2_with fail
  try refine aS ?_
  have h5:In w0 _ (pts r (iT s.room (.slice (some ⟨g,0,none⟩) c c) fro2 s.items.length EM)::_):=(h4.ae p1).setCell (off:=2) (.slice (some ⟨g,0,none⟩) c c)
  refine In.abs h5 ?_
  clear h4 h5 h3 hr hfz h2
  intro w5 h5
  have hr:=h5.cells
  have hfz:=h5.free
  go_wp2_with (first|(with_reducible apply IW))
  unfold Stop
  have hlen:=(h5.ae p3).pJ
  obtain⟨uo,ucap,rfl⟩:∃uo ucap,u= .slice uo s.items.length ucap:=by
   rcases(h5.ae p3).aU with⟨rfl,e,_⟩|⟨g,cap,ext,rfl,_⟩
   ·exact⟨none,0,by rw[e]⟩
   ·exact⟨_,_,rfl⟩
  refine EF Yi (src:=(s.items.map jc).flatten) (h5.ae p1) (by rfl) (by rfl) (by omega) hlen.1 ?_ ?_ ?_ ?_
  ·rintro ad rfl j x hx
   rcases(h5.ae p3).aU with⟨e,_⟩|⟨g,cap,ext,e,_⟩
   ·cases e
   ·cases e
    exact(h5.ae p3).Am j x hx
  ·rintro rfl
   rcases(h5.ae p3).aU with⟨_,e,_⟩|⟨g,cap,ext,e,_⟩
   ·exact e
   ·cases e
  ·intro x hx
   obtain⟨y,hy,hxy⟩:=List.mem_flatten.1 hx
   obtain⟨q,_,rfl⟩:=List.mem_map.1 hy
   exact xk q x hxy
  intro w6 h6
  clear hr hfz h5
  have hr:=(h6.ae p1).cells
  have hfz:=(h6.ae p1).free
  go_wp2_with fail
  go_ret
  have h7:In w0 _ (pts r (iT s.room (.slice (some ⟨g,0,none⟩) c c) 0 s.items.length EM)::_):=(h6.ae p1).setCell (off:=3) (.int .i64 0)
  refine⟨rfl,.slice (some ⟨g,0,none⟩) c c,0,c,s.items.map jc++List.replicate (c-s.items.length) (Value.cells (.agg #[.int .i64 0,.int .i64 0,.int .i64 0,.int .i64 0,.int .u32 0])).toList,EM,?_,by omega,?_⟩
  ·refine⟨hrb,by omega,by simp;omega,by omega,by omega,fun h=>h,fun _=>rfl,?_,fun i hi=>?_⟩
   ·intro x hx
    rcases List.mem_append.1 hx with h8|h8
    ·obtain⟨q,_,rfl⟩:=List.mem_map.1 h8
     rfl
    ·rw[(List.mem_replicate.1 h8).2];rfl
   ·rw[Nat.zero_add,Nat.mod_eq_of_lt (by omega),List.getElem?_append_left (by simpa using hi)]
    simp[hi]
  ·have e:(List.map jc s.items).flatten++List.drop (List.map jc s.items).flatten.length (zeros (.agg #[.int .i64 0,.int .i64 0,.int .i64 0,.int .i64 0,.int .u32 0]) c)=(s.items.map jc++List.replicate (c-s.items.length) (Value.cells (.agg #[.int .i64 0,.int .i64 0,.int .i64 0,.int .i64 0,.int .u32 0])).toList).flatten:=by
    rw[List.flatten_append,hlen.1,←FI (.agg #[.int .i64 0,.int .i64 0,.int .i64 0,.int .i64 0,.int .u32 0]) c s.items.length (by decide) (by omega)]
    rfl
   rw[e]at h7
   exact((h7.ae p3).drop.ae p2).drop
 ·go_enter func390,ntmps390
  go_wp2_with fail
  refine rg ⟨[], []⟩ [.c 0 0,.c 0 1,.c 0 2,.c 1 3,.c 0 4,.c 0 5,.c 0 6,.c 1 7,.c 0 8] ?_
  refine lK ?_
  go_wp2_with fail
  have hb:((s.items.length:Int)==(m:Int))=false:=by simp;omega
  refine rg ⟨[], []⟩ [.c 0 0,.c 0 1,.c 0 2,.c 1 3,.c 0 4,.c 0 5,.c 0 6,.c 1 7,.c 0 8,.c 0 9] ?_
  refine lK ?_
  go_wp2_with fail
  go_ret
  exact⟨rfl,_,gV,m,sl,high,ha,by omega,h.drew.drew⟩
theorem abY (x:aK) (h:In w0 w (dV r s::l)) (hf:s.items.length<s.room):
 aW 331 #[r,.agg #[.int .i64 x.kind,.int .i64 x.id,.int .i64 x.status,.int .i64 x.service,.int .u32 x.jC]] w w0 (.int .i64 0) (dV r {s with items:=s.items++ [x]}::l):=by
 have h0:=(h.alloc (qo x.kind x.id x.status x.service x.jC)).ae p1
 have hal:=BX h0
 obtain⟨v,gV,m,sl,high,ha,h1⟩:=oz h0
 have hsp:=YP ha hf h1
 have hrb:=ha.rM
 clear ha
 go_enter func331,ntmps331
 go_wp2_with (go_at_call 148;refine bW hal ?_)
 refine hsp.mono ?_
 rintro _ w2 ⟨rfl,v,gV,m,sl,high,ha,hlt,h2⟩
 clear hal hsp h1
 have hb2:=ha.small
 have hm:0<m:=by omega
 have hf0:=hf
 have hf:=ha.Ei hm
 rcases(h2.ae p1).aU with⟨_,rfl,_⟩|⟨g,cap,ext,rfl,q1,q2,q3,_⟩
 ·omega
 have hr:=h2.cells
 have hxc:=(h2.ae p2).cells
 have e4:¬m=0:=by omega
 have e3:(0:Int)≤((gV:Int)+s.items.length)%(m:Int):=Int.emod_nonneg _ (by omega)
 have e5:((gV:Int)+s.items.length)%(m:Int)<(m:Int):=Int.emod_lt_of_pos _ (by omega)
 have e6:(gV+s.items.length)%m<sl.length:=by rw[ha.len];exact Nat.mod_lt _ hm
 have e7:=jW ha.sizes
 have e8:(gV+s.items.length)%m*5+5≤sl.flatten.length:=by omega
 go_wp2_with fail
 refine rg ⟨[],[21]⟩ [.c 0 0,.c 0 1,.c 0 2,.c 1 3,.c 0 4,.c 0 5,.c 0 6,.c 1 7,.c 0 8,.c 0 9,.c 0 10,.c 1 11,.c 0 12,.c 0 13,.c 0 14,.c 0 15,.c 1 16,.c 0 17,.c 0 18,.c 1 19,.c 0 20,.e 21] ?_
 refine rG ?_;intro K hK
 try refine aS ?_
 refine wpList_store_row (vs:=jc x) (off:=(gV+s.items.length)%m*5) (size:=5) (by rw[Yi.sz]) (h2.drew.ae p1) (by simp[Act.eval]) (by rfl) (by rfl) e8 (xk x) ?_
 intro w3 h3
 rw[←zN ha.sizes _ e6]at h3
 clear hr e8 e7
 have hr:=(h3.ae p1).cells
 have hfz:=(h3.ae p1).free
 go_wp2_with fail
 try refine aS ?_
 go_wp2_with fail
 have h4:In w0 _ (pts r (iT s.room (.slice (some ⟨g,0,none⟩) m cap) gV (s.items.length+1) high)::_):=(h3.ae p1).setCell (off:=4) (.int .i64 ((s.items.length+1:Nat):Int))
 refine In.abs h4 ?_
 clear h4 hr hfz h3
 intro w4 h4
 have hr:=h4.cells
 have hfz:=h4.free
 obtain⟨q,hq⟩:∃q:Int,(if high<(s.items.length:Int)+1 then(s.items.length:Int)+1 else high)=q:=⟨_,rfl⟩
 refine rg ⟨[],[12]⟩ [.c 0 0,.c 0 1,.c 0 2,.c 0 3,.c 1 4,.c 0 5,.c 0 6,.c 0 7,.c 1 8,.c 0 9,.c 0 10,.c 0 11,.e 12] ?_
 refine rG ?_;intro K hK
 go_wp2_with fail
 try refine aS ?_
 go_wp2_with fail
 go_ret
 refine⟨rfl,?_⟩
 have h5:In w0 _ (pts r (iT s.room (.slice (some ⟨g,0,none⟩) m cap) gV (s.items.length+1) q)::_):=h4.drew.setCell (off:=5) (.int .i64 q)
 have e9:s.items.length+1=(s.items++ [x]).length:=by simp
 rw[e9]at h5
 exact(pX (ha.push hlt hf0 x) h5 |>.ae p1).drop
theorem MJ (h:In w0 w (dV r s::l)) (hs:s.items= []):
 aW 241 #[r] w w0 (.tuple #[(.agg #[.int .i64 0,.int .i64 0,.int .i64 0,.int .i64 0,.int .u32 0]),.int .i64 122]) (dV r s::l):=by
 have hn:s.items.length=0:=by simp[hs]
 clear hs
 have h2:=h.alloc2 (qo 0 0 0 0 0) (qo 0 0 0 0 0)
 go_enter func241,ntmps241
 go_wp2_with (go_at_call 148;go_loud (refine In.Qa h2 ?_;clear h2;intro w2 h2;refine bW (BX h2.pl) ?_;obtain⟨v,gV,m,sl,high,ha,h1⟩:=oz (h2.ae p2);have hr:=h1.cells;have hz:=(h1.ae p2).cells;have hz2:=(h1.ae p3).cells;have hfz:=(h1.ae p3).free))
 have h5:In w0 _ (pts w.heap.size (qo 0 0 0 0 0)::_):=
  (((((h1.ae p3).setCell (off:=0) (.int .i64 0)).setCell (off:=1) (.int .i64 0)).setCell (off:=2) (.int .i64 0)).setCell (off:=3) (.int .i64 0)).setCell (off:=4) (.int .u32 0)
 refine In.abs h5 ?_
 clear hr hz hz2 hfz h1 h2 h5
 intro w3 h5
 have hc:=h5.cells
 refine bodyPost_ret (v:= .tuple #[(.agg #[.int .i64 0,.int .i64 0,.int .i64 0,.int .i64 0,.int .u32 0]),.int .i64 122]) (by simp[results,results241,go_sem,hc]) rfl ?_
 exact⟨rfl,(pX ha h5.drop).s⟩
theorem aby {x:aK} {xs:List aK} (h:In w0 w (dV r s::l)) (hs:s.items=x::xs):
 aW 241 #[r] w w0 (.tuple #[.agg #[.int .i64 x.kind,.int .i64 x.id,.int .i64 x.status,.int .i64 x.service,.int .u32 x.jC],.int .i64 0]) (dV r {s with items:=xs}::l):=by
 have h2:=h.alloc2 (qo 0 0 0 0 0) (qo 0 0 0 0 0)
 have hd:((xs.length:Int)+1==0)=false:=by simp;omega
 go_enter func241,ntmps241
 go_wp2_with (go_at_call 148;refine In.Qa h2 ?_;clear h2;intro w2 h2;refine bW (BX h2.pl) ?_;obtain⟨v,gV,m,sl,high,ha,h1⟩:=oz (h2.ae p2);have hr:=h1.cells;have hn:s.items.length=xs.length+1:=(by simp[hs]))
 have hin:=ha.inside
 have hb2:=ha.small
 have hrb:=ha.rM
 have hm:0<m:=by omega
 have hf:=ha.Ei hm
 rcases(h1.ae p1).aU with⟨_,rfl,_⟩|⟨g,cap,ext,rfl,q1,q2,q3,h1g⟩
 ·omega
 have hpop:=ha.pop hs (Value.cells (.agg #[.int .i64 0,.int .i64 0,.int .i64 0,.int .i64 0,.int .u32 0])).toList rfl
 have e6:gV<sl.length:=by rw[ha.len];exact hf
 have e7:=jW ha.sizes
 have e8:gV*5+1*5≤sl.flatten.length:=by omega
 have hx0:sl[gV]? =some (jc x):=by
  have:=ha.slots 0 (by omega)
  rw[Nat.add_zero,Nat.mod_eq_of_lt hf]at this
  rw[this];simp[hs]
 have hcell:=fun(j:Nat) (u:Value) (hu:(jc x)[j]? =some u)=>(h1.ae p1).bT ha.sizes hx0 j hu
 have hc0:w2.cell? ⟨g,gV*5,none⟩=some (.int .i64 x.kind):=hcell 0 _ rfl
 have hc1:w2.cell? ⟨g,gV*5+1,none⟩=some (.int .i64 x.id):=hcell 1 _ rfl
 have hc2:w2.cell? ⟨g,gV*5+2,none⟩=some (.int .i64 x.status):=hcell 2 _ rfl
 have hc3:w2.cell? ⟨g,gV*5+3,none⟩=some (.int .i64 x.service):=hcell 3 _ rfl
 have hc4:w2.cell? ⟨g,gV*5+4,none⟩=some (.int .u32 x.jC):=hcell 4 _ rfl
 have e4:¬m=0:=by omega
 have e10:¬cap=gV:=by omega
 have e11:(gV:Int)+1≤(cap:Int):=by omega
 have e9:xs.length+1-1=xs.length:=by omega
 clear hs hx0 hcell h h2
 go_wp2_with fail
 have hrl:=h1.lt
 have hgl:=h1g.lt
 have hS0:∀b,b<w2.heap.size→∀o,w2.drew.cell? ⟨b,o,none⟩=w2.cell? ⟨b,o,none⟩:=fun _ _ _=>rfl
 refine rgS (fun w'=>∀b,b<w2.heap.size→∀o,w'.cell? ⟨b,o,none⟩=w2.cell? ⟨b,o,none⟩) ⟨[10],[11]⟩ [.c 0 0,.c 0 1,.c 0 2,.c 2 3,.c 0 4,.c 0 5,.c 0 6,.c 2 7,.c 0 8,.c 2 9,.e 10,.e 11] ?_
 refine cS_ ?_;intro K hK
 go_wp2_with fail
 refine hK _ _ (by intro b hb o;first|rfl|exact DZ hb _ _) ?_
 refine bG rfl rfl fun K hK=>?_
 go_wp2_with fail
 try refine aS ?_
 have h3:=(h1.alloc (qo x.kind x.id x.status x.service x.jC)).drew
 refine In.abs h3 ?_
 clear h3 hr hc0 hc1 hc2 hc3 hc4 hS0 hrl hgl h1g
 intro w3 h3
 have hr:=(h3.ae p1).cells
 go_wp2_with fail
 have e12:(0:Int)≤(gV:Int)+1:=by omega
 refine rg ⟨[],[14]⟩ [.c 0 0,.c 0 1,.c 0 2,.c 1 3,.c 0 4,.c 0 5,.c 0 6,.c 1 7,.c 0 8,.c 0 9,.c 0 10,.c 1 11,.c 0 12,.c 0 13,.e 14] ?_
 refine rG ?_;intro K hK
 try refine aS ?_
 refine uC Yi (off:=gV*5) (m:=1) (c:=cap-gV) ((h3.ae p2).drew) (by simp[Act.eval]) (by omega) e8 (uI (by decide) (by decide)) ?_
 intro w4 h4
 rw[kP (.agg #[.int .i64 0,.int .i64 0,.int .i64 0,.int .i64 0,.int .u32 0]) 1 (by decide),Nat.one_mul]at h4
 have e13:(List.replicate 1 (Value.cells (.agg #[.int .i64 0,.int .i64 0,.int .i64 0,.int .i64 0,.int .u32 0])).toList).flatten=(Value.cells (.agg #[.int .i64 0,.int .i64 0,.int .i64 0,.int .i64 0,.int .u32 0])).toList:=rfl
 rw[e13,←zN ha.sizes _ e6]at h4
 clear hr h3
 have fc_:=h4.facts
 go_wp2_with fail
 try refine aS ?_
 go_wp2_with fail
 refine rg ⟨[],[14]⟩ [.c 0 0,.c 0 1,.c 0 2,.c 0 3,.c 1 4,.c 0 5,.c 0 6,.c 0 7,.c 0 8,.c 1 9,.c 0 10,.c 0 11,.c 0 12,.c 0 13,.e 14] ?_
 refine rG ?_;intro K hK
 go_wp2_with fail
 try refine aS ?_
 go_upto_region 9 with(fail)
 have e5:((gV:Int)+1)%(m:Int)=(((gV+1)%m:Nat):Int):=by rw[Int.natCast_emod];rfl
 rw[e5]
 clear e5
 generalize (gV+1)%m=q at hpop⊢
 have h5:In w0 _ (pts r (iT s.room (.slice (some ⟨g,0,none⟩) m cap) q s.items.length high)::_):=((h4.ae p2).setCell (off:=3) (.int .i64 q)).drew
 refine In.abs h5 ?_
 clear h5 h4
 intro w5 h5
 have fc_:=h5.facts
 go_upto_region 10 with(fail)
 have h6:In w0 _ (pts r (iT s.room (.slice (some ⟨g,0,none⟩) m cap) q xs.length high)::_):=h5.setCell (off:=4) (.int .i64 xs.length)
 refine In.abs h6 ?_
 clear h6 h5
 intro w6 h6
 have fc_:=h6.facts
 go_wp2_with fail
 have h7:In w0 _ (pts w.heap.size (qo x.kind x.id x.status x.service x.jC)::_):=
  (((((h6.ae p4).setCell (off:=0) (.int .i64 x.kind)).setCell (off:=1) (.int .i64 x.id)).setCell (off:=2) (.int .i64 x.status)).setCell (off:=3) (.int .i64 x.service)).setCell (off:=4) (.int .u32 x.jC)
 refine In.abs h7 ?_
 clear h7 h6
 intro w7 h7
 have hc:=h7.cells
 refine bodyPost_ret (v:= .tuple #[.agg #[.int .i64 x.kind,.int .i64 x.id,.int .i64 x.status,.int .i64 x.service,.int .u32 x.jC],.int .i64 0]) (by simp[results,results241,go_sem,hc]) rfl ?_
 exact⟨rfl,(pX hpop h7.drop).s⟩
theorem QO (h:In w0 w (dV r s::l)):
 aW 309 #[r] w w0 (.int .i64 s.items.length) (dV r {s with items:= []}::l):=by
 have hal:=BX h
 obtain⟨v,gV,m,sl,high,ha,h1⟩:=oz h
 have hr:=h1.cells
 have fin:∀wx v' (sl':List (List Value)),sl'.length=m→(∀x∈sl',x.length=5)→In w0 wx (pts r (iT s.room v' gV s.items.length high)::Row 42 5 v' m sl'.flatten::l)→
  In w0 ((wx.setCell ⟨r,4,none⟩ (.int .i64 0)).setCell ⟨r,3,none⟩ (.int .i64 0)) (dV r {s with items:= []}::l):=fun wx v' sl' hp1 hp2 hx=>by
  have h5:In w0 _ (pts r (iT s.room v' 0 0 high)::_):=(hx.setCell (off:=4) (.int .i64 0)).setCell (off:=3) (.int .i64 0)
  exact pX (s:={s with items:= []}) (gV:=0) (sl:=sl') ⟨ha.rM,by simp,hp1,by simp,ha.small,fun h=>h,fun _=>rfl,hp2,fun i hi=>by simp at hi⟩ h5
 obtain⟨ao,cap,rfl⟩:∃ao cap,v= .slice ao m cap:=by
  rcases(h1.ae p1).aU with⟨rfl,rfl,_⟩|⟨g,cap,ext,rfl,_⟩
  ·exact⟨_,_,rfl⟩
  ·exact⟨_,_,rfl⟩
 by_cases hm:m=0
 ·have fin':=fin _ _ _ ha.len ha.sizes h1
  clear fin
  subst hm
  have hfz:=h1.free
  go_enter func309,ntmps309
  go_wp2_with (first|(go_at_call 148;refine bW hal ?_)|(with_reducible apply uS))
  unfold Stop
  refine AA Yi (by rfl) ?_
  go_wp2_with fail
  go_ret
  exact⟨rfl,fin'⟩
 ·rcases(h1.ae p1).aU with⟨_,rfl,_⟩|⟨g,cap,ext,e,q1,q2,q3,_⟩
  ·omega
  cases e
  have e7:=jW ha.sizes
  have e8:0+m*5≤sl.flatten.length:=by rw[e7,ha.len];omega
  go_enter func309,ntmps309
  go_wp2_with (first|(go_at_call 148;refine bW hal ?_)|(with_reducible apply uS))
  unfold Stop
  refine uC Yi (off:=0) (m:=m) (c:=cap) (h1.ae p1) (by rfl) (by omega) e8 (uI (by decide) (by decide)) ?_
  intro w2 h2
  have e9:sl.flatten.take 0++zeros (.agg #[.int .i64 0,.int .i64 0,.int .i64 0,.int .i64 0,.int .u32 0]) m++sl.flatten.drop (0+m*5)=(List.replicate m (Value.cells (.agg #[.int .i64 0,.int .i64 0,.int .i64 0,.int .i64 0,.int .u32 0])).toList).flatten:=by
   rw[List.take_zero,List.drop_eq_nil_of_le (by rw[e7,ha.len];omega),List.nil_append,List.append_nil,kP (.agg #[.int .i64 0,.int .i64 0,.int .i64 0,.int .i64 0,.int .u32 0]) m (by decide)]
  rw[e9]at h2
  have fin':=fin w2 _ (List.replicate m (Value.cells (.agg #[.int .i64 0,.int .i64 0,.int .i64 0,.int .i64 0,.int .u32 0])).toList) (by simp) (fun x hx=>by rw[(List.mem_replicate.1 hx).2];rfl) (h2.ae p1)
  have hr:=(h2.ae p1).cells
  have hfz:=(h2.ae p1).free
  clear h2 e9 fin
  go_wp2_with fail
  go_ret
  exact⟨rfl,fin'⟩
theorem acY (h:In w0 w l) (n:Nat) (hn:n≤65536):
 Calls prog 69 #[.int .i64 n] w fun e w'=>∃r,e= .returned (.tuple #[.pointer (some ⟨r,0,none⟩),.int .i64 0])∧In w0 w' (dV r ⟨n, []⟩::l):=by
 have h1:In w0 _ (pts w.heap.size (iT n (.slice none 0 0) 0 0 0)::l):=h.alloc (iT n (.slice none 0 0) 0 0 0)
 have h2:=(h1.drop.dh 42 5)
 have hd1:decide ((n:Int)<0)=false:=by simp
 have hd2:decide ((65536:Int)<(n:Int))=false:=by simp;omega
 go_enter func69,ntmps69
 go_wp2_with fail
 go_ret2
 refine⟨w.heap.size,rfl,pX (v:= .slice none 0 0) (gV:=0) (m:=0) (sl:= []) (high:=0) ⟨by simpa using hn,by simp,rfl,by simp,by simp,by simp,fun _=>rfl,by simp,fun i hi=>by simp at hi⟩ ?_⟩
 exact(h1.dh 42 5).ae p1
end
end Go.Proofs.YtajgpcnlehinbaaGreat
