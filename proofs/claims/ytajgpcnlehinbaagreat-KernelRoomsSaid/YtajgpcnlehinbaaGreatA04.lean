/- Part of a proof. -/
import Derived.Laws.Rows
import Derived.Laws.Tables
import Derived.Test.YtajgpcnlehinbaaGreatA03
namespace Go.Proofs.YtajgpcnlehinbaaGreat
set_option maxRecDepth 100000
set_option maxHeartbeats 60000000
set_option linter.all false
theorem rW {size:Nat}:∀ {sl:List (List Value)},(∀x∈sl,x.length=size)→∀ {i:Nat} {x:List Value},sl[i]? =some x→∀(j:Nat) (u:Value),j<size→
 sl.flatten.set (i*size+j) u=(sl.set i (x.set j u)).flatten
 | [],_,_,_,h,_,_,_=>by simp at h
 |y::r,h,0,x,hx,j,u,hj=>by
  simp at hx;subst hx
  have:=h y (by simp)
  simp only[Nat.zero_mul,Nat.zero_add,List.flatten_cons,List.set_cons_zero]
  rw[List.set_append_left _ _ (by omega)]
 |y::r,h,i+1,x,hx,j,u,hj=>by
  have h0:=h y (by simp)
  have ih:=rW (sl:=r) (fun z hz=>h z (List.mem_cons_of_mem _ hz)) (i:=i) (x:=x) (by simpa using hx) j u hj
  have e1:(i+1)*size=size+i*size:=by rw[Nat.add_mul,Nat.one_mul,Nat.add_comm]
  simp only[List.flatten_cons,List.set_cons_succ]
  rw[List.set_append_right _ _ (by rw[e1];omega),←ih]
  congr 2
  rw[e1]
  omega
theorem YL {size i j:Nat} {pre post x:List Value} {sl:List (List Value)} {u:Value} (hs:∀x∈sl,x.length=size) (hx:sl[i]? =some x) (hu:x[j]? =some u):
 (pre++sl.flatten++post)[pre.length+i*size+j]? =some u:=by
 have hxs:x.length=size:=hs x (List.mem_of_getElem? hx)
 have hj:j<size:=by rw[←hxs];exact(List.getElem?_eq_some_iff.1 hu).1
 have h2:sl.flatten[i*size+j]? =some u:=(flat_get hs hx j hj).trans hu
 have h3:i*size+j<sl.flatten.length:=(List.getElem?_eq_some_iff.1 h2).1
 rw[List.append_assoc,List.getElem?_append_right (by omega)]
 have e:pre.length+i*size+j-pre.length=i*size+j:=by omega
 rw[e,List.getElem?_append_left h3,h2]
theorem Zp {size i j:Nat} {pre post x:List Value} {sl:List (List Value)} (u:Value) (hs:∀x∈sl,x.length=size) (hx:sl[i]? =some x) (hj:j<size):
 (pre++sl.flatten++post).set (pre.length+i*size+j) u=pre++(sl.set i (x.set j u)).flatten++post:=by
 have hi:i<sl.length:=(List.getElem?_eq_some_iff.1 hx).1
 have hl:=jW hs
 have hb:i*size+j<sl.flatten.length:=by
  rw[hl]
  have:(i+1)*size≤sl.length*size:=Nat.mul_le_mul_right _ hi
  rw[Nat.add_mul,Nat.one_mul]at this
  omega
 rw[List.append_assoc,List.set_append_right _ _ (by omega)]
 have e:pre.length+i*size+j-pre.length=i*size+j:=by omega
 rw[e,List.set_append_left _ _ hb,rW hs hx j u hj,List.append_assoc]
section
variable {w0 w:World} {l:List SL} {b:Nat} {T:TypeId} {fr:Nat × Nat}
theorem In.WU {size i j:Nat} {pre post x:List Value} {sl:List (List Value)} {u:Value} (h:In w0 w (pts b (.cells (pre++sl.flatten++post).toArray T fr)::l)) (hs:∀x∈sl,x.length=size)
 (hx:sl[i]? =some x) (hu:x[j]? =some u):w.cell? ⟨b,pre.length+i*size+j,none⟩=some u:=by
 rw[h.cell,List.getElem?_toArray]
 exact YL hs hx hu
theorem In.Uk {size i j:Nat} {pre post x:List Value} {sl:List (List Value)} {u:Value} (h:In w0 w (pts b (.cells (pre++sl.flatten++post).toArray T fr)::l)) (hs:∀x∈sl,x.length=size)
 (hx:sl[i]? =some x) (hj:j<size):In w0 (w.setCell ⟨b,pre.length+i*size+j,none⟩ u) (pts b (.cells (pre++(sl.set i (x.set j u)).flatten++post).toArray T fr)::l):=by
 have h1:=h.setCell (off:=pre.length+i*size+j) u
 rw[List.setIfInBounds_toArray,Zp u hs hx hj]at h1
 exact h1
theorem In.MN {k:Nat} {pre post:List Value} {u:Value} (h:In w0 w (pts b (.cells (pre++post).toArray T fr)::l)) (hu:pre[k]? =some u):w.cell? ⟨b,k,none⟩=some u:=by
 rw[h.cell,List.getElem?_toArray,List.getElem?_append_left (List.getElem?_eq_some_iff.1 hu).1,hu]
end
section
variable {P:Program} {ops:Array Oper} {rest:List Oper} {dst:Option Tmp} {ty:TypeId} {pos:String} {after:Array Edge} {a:Act} {Q:Exit→Act→World→Prop}
variable {w0 w:World} {l:List SL} {b:Nat} {T t:TypeId} {fr:Nat × Nat}
theorem xh {x y:Operand} {cs old:Array Value} (h:In w0 w (pts b (.cells old T (0,0))::l)) (hi:(P.info? t).map (·.size)=some cs.size) (ho:old.size=cs.size)
 (h1:cs.all (·.oneCell')=true) (hx:a.eval x= .pointer (some ⟨b,0,none⟩)) (hy:a.eval y= .agg cs)
 (k:∀w',In w0 w' (pts b (.cells cs T (0,0))::l)→wpList P ops Q rest (a.put dst undef) w'):wpList P ops Q (⟨dst,.store t x y,ty,pos,after,none⟩::rest) a w:=by
 refine wpList_plain rfl fun K hK=>?_
 have hr:(Instr.storeAt t (a.eval x) (a.eval y)).run P w= .ok () (w.setRow b cs):=by
  have:=run_storeVar_row (P:=P) w b T t old cs h.block hi ho h1
  simp[Instr.storeAt,hx,hy,Instr.sureAddr,this]
 unfold Oper.wp execOp
 simp only[hr,Sem.run_bind,Sem.run_pure,Result.andThen_ok,Oper.upon]
 exact hK _ _ (k _ (h.turn ⟨rfl,rfl,rfl,by simp⟩ (setRow_heap w b _ _ T _ h.block) (fun k _ hk=>setRow_other w b k _ hk)))
end
theorem dL {α:Type} {slot:α→List Value} {size:Nat} (hs:∀x,(slot x).length=size) (A:List α):∀y∈A.map slot,y.length=size:=by
 intro y hy;obtain⟨q,_,rfl⟩:=List.mem_map.1 hy;exact hs q
theorem F7 {α:Type} {slot:α→List Value} {size:Nat} (hs:∀x,(slot x).length=size) (A:List α):(A.map slot).flatten.length=A.length*size:=by
 rw[jW (dL hs A),List.length_map]
theorem NE {size:Nat}:∀ {sl:List (List Value)},(∀x∈sl,x.length=size)→∀ {i:Nat} (y:List Value),i<sl.length→y.length=size→
 sl.flatten.take (i*size)++y++sl.flatten.drop (i*size+y.length)=(sl.set i y).flatten
 | [],_,_,_,h,_=>by simp at h
 |x::r,h,0,y,_,hy=>by
  have:=h x (by simp)
  have e:y.length=x.length:=by omega
  simp only[Nat.zero_mul,Nat.zero_add,List.take_zero,List.nil_append,List.flatten_cons,List.set_cons_zero]
  rw[e,List.drop_left]
 |x::r,h,i+1,y,hi,hy=>by
  have h0:=h x (by simp)
  have ih:=NE (sl:=r) (fun z hz=>h z (List.mem_cons_of_mem _ hz)) (i:=i) y (by simpa using hi) hy
  have e1:(i+1)*size=x.length+i*size:=by rw[Nat.add_mul,Nat.one_mul,Nat.add_comm,h0]
  simp only[List.flatten_cons,List.set_cons_succ]
  rw[←ih,e1,List.take_append,List.take_of_length_le (by omega),Nat.add_sub_cancel_left,List.drop_append,List.drop_eq_nil_of_le (by omega)]
  have e2:x.length+i*size+y.length-x.length=i*size+y.length:=by omega
  rw[e2]
  simp
section
variable {w0 w:World} {l:List SL} {E:TypeId} {size n g cap:Nat} {cs:List Value}
theorem In.MV {m:Nat}:∀(vs:List Value) (off:Nat) (w:World) (cs:List Value),In w0 w (Row E size (.slice (some ⟨g,0,none⟩) m cap) n cs::l)→off+vs.length≤cs.length→(∀u∈vs,u.oneCell'=true)→
 In w0 (dm w g off vs) (Row E size (.slice (some ⟨g,0,none⟩) m cap) n (cs.take off++vs++cs.drop (off+vs.length))::l)
 | [],off,w,cs,h,_,_=>by simpa[dm]using h
 |v::vs,off,w,cs,h,hi,h1=>by
  have hi':off<cs.length:=by simp at hi;omega
  have h2:=In.MV vs (off+1) _ _ (h.qU (off:=off) hi' (h1 v (by simp))) (by simp at hi⊢;omega) (fun u hu=>h1 u (by simp[hu]))
  have hA:(cs.take off).length=off:=by rw[List.length_take];omega
  have e0:cs.set off v=cs.take off++v::cs.drop (off+1):=by rw[List.set_eq_take_append_cons_drop,if_pos hi']
  have e1:(cs.take off++v::cs.drop (off+1)).take (off+1)=cs.take off++ [v]:=by
   rw[List.take_append,hA,List.take_of_length_le (by omega)]
   have:off+1-off=1:=by omega
   rw[this]
   rfl
  have e2:(cs.take off++v::cs.drop (off+1)).drop (off+1+vs.length)=cs.drop (off+(v::vs).length):=by
   rw[List.drop_append,hA,List.drop_eq_nil_of_le (by omega)]
   have:off+1+vs.length-off=vs.length+1:=by omega
   rw[this,List.nil_append,List.drop_succ_cons,List.drop_drop]
   congr 1
   simp
   omega
  rw[e0,e1,e2,List.append_assoc (cs.take off)]at h2
  exact h2
variable {α:Type} {slot:α→List Value} {A:List α} {i:Nat}
theorem In.zI (hs:∀x,(slot x).length=size) (h1:∀x,∀u∈slot x,u.oneCell'=true) (h:In w0 w (Row E size (.slice (some ⟨g,0,none⟩) A.length cap) A.length (A.map slot).flatten::l)) (hi:i<A.length) (y:α):
 In w0 (dm w g (i*size) (slot y)) (Row E size (.slice (some ⟨g,0,none⟩) (A.set i y).length cap) (A.set i y).length ((A.set i y).map slot).flatten::l):=by
 have hl:=F7 hs A
 have hb:(i+1)*size≤A.length*size:=Nat.mul_le_mul_right _ hi
 rw[Nat.add_mul,Nat.one_mul]at hb
 have h2:=In.MV (slot y) (i*size) w _ h (by rw[hl,hs];exact hb) (h1 y)
 rw[NE (dL hs A) (slot y) (by simpa using hi) (hs y),←List.map_set]at h2
 simp only[List.length_set]
 exact h2
theorem In.Dc (hs:∀x,(slot x).length=size) (h:In w0 w (Row E size (.slice (some ⟨g,0,none⟩) A.length cap) A.length (A.map slot).flatten::l)) {x y:α} {u:Value} (hx:A[i]? =some x) (j:Nat) (hj:j<size) (hy:(slot x).set j u=slot y) (hu:u.oneCell'=true):
 In w0 (w.setCell ⟨g,i*size+j,none⟩ u) (Row E size (.slice (some ⟨g,0,none⟩) (A.set i y).length cap) (A.set i y).length ((A.set i y).map slot).flatten::l):=by
 have hi:=(List.getElem?_eq_some_iff.1 hx).1
 have hl:=F7 hs A
 have hb:(i+1)*size≤A.length*size:=Nat.mul_le_mul_right _ hi
 rw[Nat.add_mul,Nat.one_mul]at hb
 have h2:=h.qU (off:=i*size+j) (u:=u) (by rw[hl];omega) hu
 rw[rW (dL hs A) (x:=slot x) (by simp[hx]) j u hj,hy,←List.map_set]at h2
 simp only[List.length_set]
 exact h2
end
theorem Ee {α:Type _}:∀ {l:List α} {i:Nat} {A:α},l[i]? =some A→l.Perm (A::l.eraseIdx i)
 | [],_,_,h=>by simp at h
 |B::l,0,A,h=>by simp at h;subst h;exact List.Perm.refl _
 |B::l,i+1,A,h=>((Ee (l:=l) (i:=i) (by simpa using h)).cons B).trans (List.Perm.swap A B _)
theorem In.aG {w0 w:World} {l:List SL} {E:TypeId} {size n:Nat} {v:Value} {cs:List Value} (h:In w0 w (Row E size v n cs::l)):∃ao cap,v= .slice ao n cap:=by
 rcases h.aU with⟨rfl,rfl,_⟩|⟨g,cap,ext,rfl,_⟩
 ·exact⟨none,0,rfl⟩
 ·exact⟨_,_,rfl⟩
section
variable {w0 w:World} {l L:List SL} {i:Nat} {A:SL}
theorem In.hole (h:In w0 w (bQ L::l)) (hi:L[i]? =some A):In w0 w (A::bQ (L.eraseIdx i)::l):=
 In.dP.1 (h.head fun _ s=>bQ.perm (Ee hi) s)
theorem In.Pn (h:In w0 w (A::bQ (L.eraseIdx i)::l)) (hi:i<L.length):In w0 w (bQ (L.set i A)::l):=by
 have h1:=In.dP.2 h
 refine h1.head fun _ s=>?_
 have p:=Ee (l:=L.set i A) (i:=i) (A:=A) (by simp[hi])
 rw[List.eraseIdx_set_eq]at p
 exact bQ.perm p.symm s
theorem In.pR {B:SL} {k:List SL}:In w0 w (bQ (B::k)::l)↔In w0 w (B::bQ k::l):=In.dP
theorem In.Qs {B:SL} {k:List SL}:In w0 w (bQ (k++ [B])::l)↔In w0 w (B::bQ k::l):=
 ⟨fun h=>In.pR.1 (h.head fun _ s=>bQ.perm (List.perm_append_comm (l₁:=k) (l₂:=[B])) s),fun h=>(In.pR.2 h).head fun _ s=>bQ.perm (List.perm_append_comm (l₁:=[B]) (l₂:=k)) s⟩
theorem In.Ai:In w0 w (bQ []::l)↔In w0 w l:=In.Ce
end
end Go.Proofs.YtajgpcnlehinbaaGreat
