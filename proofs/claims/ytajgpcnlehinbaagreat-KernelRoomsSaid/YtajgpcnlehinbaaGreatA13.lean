/- Part of a proof. -/
import Derived.Test.YtajgpcnlehinbaaGreatA06
import Derived.Test.YtajgpcnlehinbaaGreatA12
namespace Go.Proofs.YtajgpcnlehinbaaGreat
open Tryz Go.RowKit
set_option maxRecDepth 100000
set_option maxHeartbeats 60000000
set_option linter.all false
section
variable {w0 w:World} {l:List SL} {r:Nat} {q:dC}
theorem XI {v:Value} {rows:List kS} {B:List (Nat × Obj)} (h:In w0 w (bJ B::l)) (hv:dQ B v rows.length (rows.map iR).flatten) (hok:xK rows):
 Calls prog 297 #[v] w fun e w'=>∃r,e= .returned (.tuple #[.pointer (some ⟨r,0,none⟩),.int .i64 0])∧In w0 w' (sS r (tu rows)::bJ B::l):=by
 obtain⟨ao,cap,rfl⟩:=hv.form
 have h1:=h.alloc (.cells (zeroCells395.setIfInBounds 0 (.bool true)) 395)
 go_enter func297,ntmps297
 go_upto_region 2 with(fail)
 refine In.abs h1 ?_
 clear h1 h
 generalize w.heap.size=r
 intro w2 h2
 rw[Qd]at h2
 have h3:In w0 w2 (sS r (tu [])::bJ B::l):=by
  exact Ug h2
 clear h2
 go_upto_region 4 with(fail)
 go_loopw [5,7,8,9,14] (fun last _ _ _ c wr=>∃k:Nat,k≤rows.length∧c= .int .i64 k∧last= .int .i64 (xg (rows.take k))∧
  In w0 wr (sS r (tu (rows.take k))::bJ B::l))
  (fun _ _ _ _ c _=>rows.length-(intOf c).toNat)
 case atStart=>exact⟨0,Nat.zero_le _,rfl,rfl,h3⟩
 case round=>
  obtain⟨k,hk,rfl,rfl,hw⟩:=hrel
  clear h3
  by_cases hlt:k<rows.length
  ·have hnext:=List.take_succ_eq_append_getElem hlt
   have hmax:=hv.1
   unfold maxLen at hmax
   have hok1:xK (rows.take k++ [rows[k]]):=by rw[←hnext];exact hok.take (k+1)
   obtain⟨b1,b2,b3,b4⟩:=hok.bound rows[k] (List.getElem_mem hlt)
   obtain⟨d1,d2⟩:=hok1.last
   have XX:=TJ (rows.take k) rows[k]
   have hlp:xg (rows.take k++ [rows[k]])=rows[k].aI:=by unfold xg;rw[List.getLast?_concat];rfl
   rw[←hnext]at XX hlp
   obtain⟨g,og,cap2,e,hcap2,hcl⟩:=hv.cells (hw.ae p1) (by omega)
   cases e
   have hcs:∀(j:Nat) (u:Value),(iR rows[k])[j]? =some u→j<2→wr.cell? ⟨g,og+(k*2+j),none⟩=some u:=fun j u hu hj=>
    hcl _ u ((flat_get (dL (slot:=iR) (size:=2) (fun _=>rfl) rows) (i:=k) (x:=iR rows[k]) (by simp[hlt]) j hj).trans hu)
   generalize rows[k]=x at*
   rcases x with⟨pr,cp⟩
   obtain⟨p,rfl⟩:∃p:Nat,pr=p:=⟨pr.toNat,by simp only at b1;omega⟩
   obtain⟨cp,rfl⟩:∃c:Nat,cp=c:=⟨cp.toNat,by simp only at b3;omega⟩
   simp only at b1 b2 b3 b4 d1 hlp
   simp only[kS.ring,Int.toNat_natCast]at d2 XX
   have hnone:=Uj (rows.take k) p (by omega) d2
   have hc0:wr.cell? ⟨g,og+k*2,none⟩=some (.int .i64 p):=by have:=hcs 0 _ rfl (by decide);simpa[Nat.add_assoc]using this
   have hc1:wr.cell? ⟨g,og+k*2+1,none⟩=some (.int .i64 cp):=by have:=hcs 1 _ rfl (by decide);simpa[Nat.add_assoc]using this
   clear hcs
   have h4:=hw.alloc (Ik p cp)
   go_upto_region 6 with(fail)
   refine In.abs h4 ?_
   clear h4 hw hc0 hc1
   generalize wr.heap.size=z
   intro w4 h4
   have fc_:=h4.facts
   have n1:¬((p:Int)<0):=by omega
   have n2:¬(xg (rows.take k)≤(p:Int)):=by omega
   have n3:¬((cp:Int)<1):=by omega
   go_upto_region 11 with(go_at_call 70;refine(aar h4 cp (by omega)).mono ?_;rintro _ w5 ⟨c,rfl,h5⟩)
   clear h4
   obtain⟨ps,b,hp,h6⟩:=zA (h5.ae p2)
   have hpl:p<ps.length:=by rw[hp.pl];omega
   have hy:=Df h6 (List.getElem?_eq_getElem hpl)
   have h7:=(Po (x:=some c) h6 hpl).drew
   have hq0:(0:Int)≤(p:Int):=by omega
   have hq1:(p:Int)<64:=by omega
   have fc_:=h5.facts
   have hfz:=h6.free
   go_upto_region 12 with(fail)
   refine rg ⟨[],[7]⟩ [.c 0 0,.c 0 1,.c 1 2,.c 0 3,.c 0 4,.c 0 5,.c 0 6,.e 7] ?_
   refine rG ?_;intro K hK
   go_wp2_with fail
   try refine aS ?_
   go_wp2_with fail
   go_roundw
   case rel=>
    refine⟨k+1,hlt,by go_num,by rw[hlp],?_⟩
    rw[XX]
    exact((Y3 (s:=⟨cp, []⟩) hp hnone rfl (h7.ae p2)).ae p1).drop
   case measure=>simp[intOf]<;>omega
  ·have:k=rows.length:=by omega
   subst this
   rw[List.take_length]at hw
   go_wp2_with fail
   go_ret2
   exact⟨_,rfl,hw⟩
end
end Go.Proofs.YtajgpcnlehinbaaGreat
