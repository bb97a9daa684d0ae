/- Part of a proof. -/
import Derived.WalkKit
import Derived.StillTailTactics
import Derived.Deep.QuietTactic
import Derived.BigQuiet
import Derived.Deep.RegionHeld3
import Derived.Test.YtajgpcnlehinbaaGreatA01
namespace Go.Proofs.YtajgpcnlehinbaaGreat
open Go.RowKit
set_option maxRecDepth 100000
set_option maxHeartbeats 60000000
set_option linter.all false
abbrev Hp:=Nat→Option (Bool × Obj)
def Hp.nil:Hp:=fun _=>none
def xY (h1 h2 h:Hp):Prop:=∀b:Nat,
 (h1 b=none∧h b=h2 b)∨(h2 b=none∧h b=h1 b)∨(∃o,h1 b=some (false,o)∧h2 b=some (false,o)∧h b=some (false,o))
theorem xY.comm {h1 h2 h:Hp} (c:xY h1 h2 h):xY h2 h1 h:=fun b=>by
 rcases c b with h|h|⟨o,a,b,c⟩
 ·exact .inr (.inl h)
 ·exact .inl h
 ·exact .inr (.inr ⟨o,b,a,c⟩)
theorem xY.FP (h:Hp):xY Hp.nil h h:=fun _=> .inl ⟨rfl,rfl⟩
theorem xY.nil_eq {h h':Hp} (c:xY Hp.nil h h'):h'=h:=funext fun b=>by
 rcases c b with⟨_,e⟩|⟨e,e'⟩|⟨o,e,_,_⟩
 ·exact e
 ·rw[e',e];rfl
 ·cases e
def Hp.join (h1 h2:Hp):Hp:=fun b=>match h1 b with|some x=>some x|none=>h2 b
theorem xY.aaF {h1 h2 h3 h12 h:Hp} (a:xY h1 h2 h12) (b:xY h12 h3 h):∃h23,xY h2 h3 h23∧xY h1 h23 h:=by
 refine⟨Hp.join h2 h3,fun k=>?_,fun k=>?_⟩
 ·unfold Hp.join
  rcases a k with⟨e1,e2⟩|⟨e1,e2⟩|⟨o,e1,e2,e3⟩
  ·rcases b k with⟨f1,f2⟩|⟨f1,f2⟩|⟨p,f1,f2,f3⟩
   ·rw[e2]at f1;left;simp[f1]
   ·right;left;simp only[f1,true_and];cases h:h2 k<;>simp[h]
   ·rw[e2]at f1;right;right;exact⟨p,f1,f2,by simp[f1]⟩
  ·left;simp[e1]
  ·rcases b k with⟨f1,f2⟩|⟨f1,f2⟩|⟨p,f1,f2,f3⟩
   ·rw[e3]at f1;cases f1
   ·right;left;simp[f1,e2]
   ·rw[e3]at f1;cases f1;right;right;exact⟨o,e2,f2,by simp[e2]⟩
 ·unfold Hp.join
  rcases a k with⟨e1,e2⟩|⟨e1,e2⟩|⟨o,e1,e2,e3⟩
  ·rcases b k with⟨f1,f2⟩|⟨f1,f2⟩|⟨p,f1,f2,f3⟩
   ·rw[e2]at f1;left;exact⟨e1,by simp[f1,f2]⟩
   ·left;refine⟨e1,?_⟩;rw[f2,e2];cases h:h2 k<;>simp[f1,h]
   ·rw[e2]at f1;left;exact⟨e1,by simp[f1,f3]⟩
  ·rcases b k with⟨f1,f2⟩|⟨f1,f2⟩|⟨p,f1,f2,f3⟩
   ·rw[e2]at f1;left;exact⟨f1,by simp[e1,f2]⟩
   ·right;left;exact⟨by simp[e1,f1],by rw[f2,e2]⟩
   ·rw[e2]at f1;right;right;exact⟨p,f1,by simp[e1,f2],f3⟩
  ·rcases b k with⟨f1,f2⟩|⟨f1,f2⟩|⟨p,f1,f2,f3⟩
   ·rw[e3]at f1;cases f1
   ·right;right;exact⟨o,e1,by simp[e2],by rw[f2,e3]⟩
   ·rw[e3]at f1;cases f1;right;right;exact⟨o,e1,by simp[e2],f3⟩
abbrev SL:=Hp→Prop
def emp:SL:=fun h=>h=Hp.nil
def AQ (p:Prop):SL:=fun h=>p∧h=Hp.nil
def pts (b:Nat) (o:Obj):SL:=fun h=>h=fun k=>if k=b then some (true,o) else none
def ro (b:Nat) (o:Obj):SL:=fun h=>h=fun k=>if k=b then some (false,o) else none
def ex {α:Type} (f:α→SL):SL:=fun h=>∃x,f x h
def star (A B:SL):SL:=fun h=>∃h1 h2,A h1∧B h2∧xY h1 h2 h
def bQ:List SL→SL
 | []=>emp
 |A::l=>star A (bQ l)
theorem uJ {A B:SL} {h:Hp} (s:star A B h):star B A h:=let ⟨h1,h2,a,b,c⟩:=s;⟨h2,h1,b,a,c.comm⟩
theorem oh {A B C:SL} {h:Hp} (s:star (star A B) C h):star A (star B C) h:=by
 obtain⟨h12,h3,⟨h1,h2,a,b,c⟩,d,e⟩:=s
 obtain⟨h23,f,g⟩:=xY.aaF c e
 exact⟨h1,h23,a,⟨h2,h3,b,d,f⟩,g⟩
theorem star_assoc' {A B C:SL} {h:Hp} (s:star A (star B C) h):star (star A B) C h:=by
 have h1:=oh (uJ (oh (uJ s)))
 exact uJ (oh (uJ (oh (uJ s)))) |> fun x=>by
  obtain⟨a1,a23,ha,⟨a2,a3,hb,hc,c2⟩,c1⟩:=s
  obtain⟨q,c3,c4⟩:=xY.aaF c2.comm c1.comm
  exact⟨q,a3,⟨a1,a2,ha,hb,c3.comm⟩,hc,c4.comm⟩
theorem uO {A A' B B':SL} {h:Hp} (s:star A B h) (ha:∀h,A h→A' h) (hb:∀h,B h→B' h):star A' B' h:=
 let ⟨h1,h2,a,b,c⟩:=s;⟨h1,h2,ha _ a,hb _ b,c⟩
theorem Mc {A:SL} {h:Hp}:star emp A h↔A h:=
 ⟨fun⟨_,_,e,a,c⟩=>by cases e;rw[c.nil_eq];exact a,fun a=>⟨_,_,rfl,a,xY.FP h⟩⟩
theorem bQ.perm {l l':List SL} (p:l.Perm l'):∀ {h:Hp},bQ l h→bQ l' h:=by
 induction p with
 |nil=>exact fun s=>s
 |cons x _ ih=>exact fun s=>uO s (fun _ a=>a) (fun _ b=>ih b)
 |swap x y l=>exact fun s=>oh (uO (star_assoc' s) (fun _ a=>uJ a) (fun _ b=>b))
 |trans _ _ i1 i2=>exact fun s=>i2 (i1 s)
theorem bQ.append {l l':List SL}:∀ {h:Hp},bQ (l++l') h↔star (bQ l) (bQ l') h:=by
 induction l with
 |nil=>exact fun{h}=>Mc.symm
 |cons A l ih=>
  intro h
  exact⟨fun s=>star_assoc' (uO s (fun _ a=>a) (fun _ b=>ih.1 b)),fun s=>uO (oh s) (fun _ a=>a) (fun _ b=>ih.2 b)⟩
def JI (w:World) (h:Hp):Prop:=∀b m o,h b=some (m,o)→w.heap[b]? =some o
theorem JI.left {w:World} {h1 h2 h:Hp} (m:JI w h) (c:xY h1 h2 h):JI w h1:=fun b s o e=>by
 rcases c b with⟨a,_⟩|⟨_,a⟩|⟨p,a,_,d⟩
 ·rw[a]at e;cases e
 ·exact m b s o (a.trans e)
 ·rw[a]at e;cases e;exact m b _ _ d
structure Env (w0 w:World):Prop where
 os:w.os=w0.os
 tape:w.tape=w0.tape
 output:w.output=w0.output
 size:w0.heap.size≤w.heap.size
theorem Env.refl (w:World):Env w w:=⟨rfl,rfl,rfl,Nat.le_refl _⟩
theorem Env.trans {a b c:World} (h:Env a b) (k:Env b c):Env a c:=⟨k.os.trans h.os,k.tape.trans h.tape,k.output.trans h.output,Nat.le_trans h.size k.size⟩
structure In (w0 w:World) (l:List SL):Prop where
 env:Env w0 w
 mem:∃h,bQ l h∧JI w h
section
variable {w0 w:World} {l l':List SL} {A B:SL}
theorem In.perm (h:In w0 w l) (p:l.Perm l'):In w0 w l':=⟨h.env,let ⟨x,s,m⟩:=h.mem;⟨x,s.perm p,m⟩⟩
theorem In.mono {l l':List SL} (h:In w0 w l) (k:∀x,bQ l x→bQ l' x):In w0 w l':=⟨h.env,let ⟨x,s,m⟩:=h.mem;⟨x,k x s,m⟩⟩
theorem In.drop (h:In w0 w (A::l)):In w0 w l:=by
 obtain⟨e,x,⟨h1,h2,_,b,c⟩,m⟩:=h
 exact⟨e,h2,b,m.left c.comm⟩
theorem In.head {A':SL} (h:In w0 w (A::l)) (k:∀x,A x→A' x):In w0 w (A'::l):=h.mono fun _ s=>uO s k (fun _ b=>b)
theorem In.dw {p:Prop}:In w0 w (AQ p::l)↔p∧In w0 w l:=by
 constructor
 ·rintro⟨e,x,⟨h1,h2,⟨hp,rfl⟩,b,c⟩,m⟩
  exact⟨hp,e,h2,b,m.left c.comm⟩
 ·rintro⟨hp,e,x,s,m⟩
  exact⟨e,x,⟨_,x,⟨hp,rfl⟩,s,xY.FP x⟩,m⟩
theorem In.Ce:In w0 w (emp::l)↔In w0 w l:=by
 constructor
 ·exact fun h=>h.drop
 ·rintro⟨e,x,s,m⟩;exact⟨e,x,Mc.2 s,m⟩
theorem In.aY {α:Type} {f:α→SL}:In w0 w (ex f::l)↔∃x,In w0 w (f x::l):=by
 constructor
 ·rintro⟨e,x,⟨h1,h2,⟨y,hy⟩,b,c⟩,m⟩
  exact⟨y,e,x,⟨h1,h2,hy,b,c⟩,m⟩
 ·rintro⟨y,e,x,⟨h1,h2,hy,b,c⟩,m⟩
  exact⟨e,x,⟨h1,h2,⟨y,hy⟩,b,c⟩,m⟩
theorem In.dP:In w0 w (star A B::l)↔In w0 w (A::B::l):=
 ⟨fun h=>h.mono fun _ s=>oh s,fun h=>h.mono fun _ s=>star_assoc' s⟩
theorem In.bn {k:List SL}:In w0 w (bQ k::l)↔In w0 w (k++l):=
 ⟨fun h=>h.mono fun _ s=>bQ.append.2 s,fun h=>h.mono fun _ s=>bQ.append.1 s⟩
theorem In.block {b:Nat} {o:Obj} (h:In w0 w (pts b o::l)):w.heap[b]? =some o:=by
 obtain⟨_,x,⟨h1,h2,rfl,_,c⟩,m⟩:=h
 refine(m.left c) b true o ?_
 simp
theorem In.XL {b:Nat} {o:Obj} (h:In w0 w (ro b o::l)):w.heap[b]? =some o:=by
 obtain⟨_,x,⟨h1,h2,rfl,_,c⟩,m⟩:=h
 refine(m.left c) b false o ?_
 simp
theorem In.acd {b:Nat} {o:Obj} (h:In w0 w (ro b o::l)):In w0 w (ro b o::ro b o::l):=by
 refine h.mono fun x s=>?_
 refine oh (uO s (fun y a=>?_) (fun _ b=>b))
 cases a
 refine⟨_,_,rfl,rfl,fun k=>?_⟩
 by_cases hk:k=b
 ·right;right;exact⟨o,by simp[hk]⟩
 ·left;simp[hk]
theorem In.turn {b:Nat} {o o':Obj} {w':World} (h:In w0 w (pts b o::l)) (he:Env w w') (hb:w'.heap[b]? =some o')
 (hk:∀k,k<w.heap.size→k≠b→w'.heap[k]? =w.heap[k]?):In w0 w' (pts b o'::l):=by
 obtain⟨e,x,⟨h1,h2,rfl,s,c⟩,m⟩:=h
 refine⟨e.trans he,fun k=>if k=b then some (true,o') else x k,⟨_,h2,rfl,s,fun k=>?_⟩,fun k md p hp=>?_⟩
 ·by_cases hk:k=b
  ·subst hk
   right;left
   rcases c k with⟨a,_⟩|⟨a,_⟩|⟨q,a,_,_⟩
   ·simp at a
   ·exact⟨a,by simp⟩
   ·simp at a
  ·left
   rcases c k with⟨_,a⟩|⟨a,a'⟩|⟨q,a,_,_⟩
   ·simp[hk,a]
   ·simp[hk,a,a']
   ·simp[hk]at a
 ·by_cases hkb:k=b
  ·subst hkb;simp at hp;rw[hb,hp.2]
  ·simp[hkb]at hp
   have h1:=m k md p hp
   rw[hk k (Array.getElem?_eq_some_iff.1 h1).1 hkb,h1]
theorem In.keep {w':World} (h:In w0 w l) (he:Env w w') (hk:∀k,k<w.heap.size→w'.heap[k]? =w.heap[k]?):In w0 w' l:=by
 obtain⟨e,x,s,m⟩:=h
 exact⟨e.trans he,x,s,fun k md p hp=>by have h1:=m k md p hp;rw[hk k (Array.getElem?_eq_some_iff.1 h1).1,h1]⟩
theorem In.fresh {w':World} {b:Nat} {o:Obj} (h:In w0 w l) (he:Env w w') (hb:w'.heap[b]? =some o) (hlt:w.heap.size≤b)
 (hk:∀k,k<w.heap.size→w'.heap[k]? =w.heap[k]?):In w0 w' (pts b o::l):=by
 obtain⟨e,x,s,m⟩:=h
 have hx:∀k,w.heap.size≤k→x k=none:=fun k hk=>by
  cases hxk:x k with
  |none=>rfl
  |some y=>have:=m k y.1 y.2 hxk;have:=(Array.getElem?_eq_some_iff.1 this).1;omega
 refine⟨e.trans he,fun k=>if k=b then some (true,o) else x k,⟨_,x,rfl,s,fun k=>?_⟩,fun k md p hp=>?_⟩
 ·by_cases hk:k=b
  ·subst hk;right;left;exact⟨hx k hlt,by simp⟩
  ·left;simp[hk]
 ·by_cases hkb:k=b
  ·subst hkb;simp at hp;rw[hb,hp.2]
  ·simp[hkb]at hp
   have h1:=m k md p hp
   rw[hk k (Array.getElem?_eq_some_iff.1 h1).1,h1]
theorem In.aas {b:Nat} {o:Obj} (h:In w0 w (pts b o::l)):In w0 w (ro b o::l):=by
 obtain⟨e,x,⟨h1,h2,rfl,s,c⟩,m⟩:=h
 refine⟨e,fun k=>if k=b then some (false,o) else x k,⟨_,h2,rfl,s,fun k=>?_⟩,fun k md p hp=>?_⟩
 ·by_cases hk:k=b
  ·subst hk
   rcases c k with⟨a,_⟩|⟨a,_⟩|⟨q,a,_,_⟩
   ·simp at a
   ·right;left;exact⟨a,by simp⟩
   ·simp at a
  ·rcases c k with⟨_,a⟩|⟨a,a'⟩|⟨q,a,_,_⟩
   ·left;simp[hk,a]
   ·left;simp[hk,a,a']
   ·simp[hk]at a
 ·by_cases hkb:k=b
  ·subst hkb
   simp at hp
   rcases c k with⟨a,_⟩|⟨_,a⟩|⟨q,a,_,_⟩
   ·simp at a
   ·simp at a;rw[m k _ _ a,hp.2]
   ·simp at a
  ·simp[hkb]at hp
   exact m k md p hp
theorem In.apart {b c:Nat} {o p:Obj} (h:In w0 w (pts b o::pts c p::l)):b≠c:=by
 rintro rfl
 obtain⟨e,x,⟨h1,h2,rfl,⟨h3,h4,rfl,_,d⟩,c⟩,m⟩:=h
 rcases c b with⟨a,_⟩|⟨a,_⟩|⟨q,a,_,_⟩
 ·simp at a
 ·rcases d b with⟨a',_⟩|⟨_,a'⟩|⟨q,a',_,_⟩
  ·simp at a'
  ·simp at a';rw[a]at a';cases a'
  ·simp at a'
 ·simp at a
inductive oG (A:SL):List SL→List SL→Prop where
 |here {l:List SL}:oG A (A::l) l
 |there {B:SL} {l l':List SL}:oG A l l'→oG A (B::l) (B::l')
theorem oG.perm {A:SL} {l l':List SL} (p:oG A l l'):l.Perm (A::l'):=by
 induction p with
 |here=>exact List.Perm.refl _
 |there _ ih=>exact(ih.cons _).trans (List.Perm.swap _ _ _)
theorem In.ae (h:In w0 w l) {l'} (p:oG A l l'):In w0 w (A::l'):=h.perm p.perm
theorem In.push {l'} (h:In w0 w (A::l')) (p:oG A l l'):In w0 w l:=h.perm p.perm.symm
theorem p0 {A:SL} {l:List SL}:oG A (A::l) l:= .here
theorem p1 {A B:SL} {l:List SL}:oG A (B::A::l) (B::l):= .there p0
theorem p2 {A B C:SL} {l:List SL}:oG A (B::C::A::l) (B::C::l):= .there p1
theorem p3 {A B C D:SL} {l:List SL}:oG A (B::C::D::A::l) (B::C::D::l):= .there p2
theorem p4 {A B C D E:SL} {l:List SL}:oG A (B::C::D::E::A::l) (B::C::D::E::l):= .there p3
theorem p5 {A B C D E F:SL} {l:List SL}:oG A (B::C::D::E::F::A::l) (B::C::D::E::F::l):= .there p4
theorem p6 {A B C D E F G:SL} {l:List SL}:oG A (B::C::D::E::F::G::A::l) (B::C::D::E::F::G::l):= .there p5
theorem p7 {A B C D E F G H:SL} {l:List SL}:oG A (B::C::D::E::F::G::H::A::l) (B::C::D::E::F::G::H::l):= .there p6
theorem p8 {A B C D E F G H I:SL} {l:List SL}:oG A (B::C::D::E::F::G::H::I::A::l) (B::C::D::E::F::G::H::I::l):= .there p7
theorem p9 {A B C D E F G H I J:SL} {l:List SL}:oG A (B::C::D::E::F::G::H::I::J::A::l) (B::C::D::E::F::G::H::I::J::l):= .there p8
theorem p10 {A B0 B1 B2 B3 B4 B5 B6 B7 B8 B9:SL} {l:List SL}:oG A (B0::B1::B2::B3::B4::B5::B6::B7::B8::B9::A::l) (B0::B1::B2::B3::B4::B5::B6::B7::B8::B9::l):= .there p9
theorem p11 {A B0 B1 B2 B3 B4 B5 B6 B7 B8 B9 B10:SL} {l:List SL}:oG A (B0::B1::B2::B3::B4::B5::B6::B7::B8::B9::B10::A::l) (B0::B1::B2::B3::B4::B5::B6::B7::B8::B9::B10::l):= .there p10
theorem p12 {A B0 B1 B2 B3 B4 B5 B6 B7 B8 B9 B10 B11:SL} {l:List SL}:oG A (B0::B1::B2::B3::B4::B5::B6::B7::B8::B9::B10::B11::A::l) (B0::B1::B2::B3::B4::B5::B6::B7::B8::B9::B10::B11::l):= .there p11
theorem p13 {A B0 B1 B2 B3 B4 B5 B6 B7 B8 B9 B10 B11 B12:SL} {l:List SL}:oG A (B0::B1::B2::B3::B4::B5::B6::B7::B8::B9::B10::B11::B12::A::l) (B0::B1::B2::B3::B4::B5::B6::B7::B8::B9::B10::B11::B12::l):= .there p12
theorem p14 {A B0 B1 B2 B3 B4 B5 B6 B7 B8 B9 B10 B11 B12 B13:SL} {l:List SL}:oG A (B0::B1::B2::B3::B4::B5::B6::B7::B8::B9::B10::B11::B12::B13::A::l) (B0::B1::B2::B3::B4::B5::B6::B7::B8::B9::B10::B11::B12::B13::l):= .there p13
theorem p15 {A B0 B1 B2 B3 B4 B5 B6 B7 B8 B9 B10 B11 B12 B13 B14:SL} {l:List SL}:oG A (B0::B1::B2::B3::B4::B5::B6::B7::B8::B9::B10::B11::B12::B13::B14::A::l) (B0::B1::B2::B3::B4::B5::B6::B7::B8::B9::B10::B11::B12::B13::B14::l):= .there p14
theorem p16 {A B0 B1 B2 B3 B4 B5 B6 B7 B8 B9 B10 B11 B12 B13 B14 B15:SL} {l:List SL}:oG A (B0::B1::B2::B3::B4::B5::B6::B7::B8::B9::B10::B11::B12::B13::B14::B15::A::l) (B0::B1::B2::B3::B4::B5::B6::B7::B8::B9::B10::B11::B12::B13::B14::B15::l):= .there p15
theorem p17 {A B0 B1 B2 B3 B4 B5 B6 B7 B8 B9 B10 B11 B12 B13 B14 B15 B16:SL} {l:List SL}:oG A (B0::B1::B2::B3::B4::B5::B6::B7::B8::B9::B10::B11::B12::B13::B14::B15::B16::A::l) (B0::B1::B2::B3::B4::B5::B6::B7::B8::B9::B10::B11::B12::B13::B14::B15::B16::l):= .there p16
theorem p18 {A B0 B1 B2 B3 B4 B5 B6 B7 B8 B9 B10 B11 B12 B13 B14 B15 B16 B17:SL} {l:List SL}:oG A (B0::B1::B2::B3::B4::B5::B6::B7::B8::B9::B10::B11::B12::B13::B14::B15::B16::B17::A::l) (B0::B1::B2::B3::B4::B5::B6::B7::B8::B9::B10::B11::B12::B13::B14::B15::B16::B17::l):= .there p17
theorem Env.drew (w:World):Env w w.drew:=⟨rfl,rfl,rfl,Nat.le_refl _⟩
theorem In.drew (h:In w0 w l):In w0 w.drew l:=h.keep (Env.drew w) (fun _ _=>rfl)
theorem In.alloc (h:In w0 w l) (o:Obj):In w0 (w.alloc o) (pts w.heap.size o::l):=
 h.fresh ⟨rfl,rfl,rfl,by simp⟩ (heap_alloc_new w o) (Nat.le_refl _) (fun k hk=>Below.heap_alloc w o k hk)
theorem In.setCell {b off:Nat} {cs:Array Value} {T:TypeId} {fr:Nat × Nat} (h:In w0 w (pts b (.cells cs T fr)::l)) (v:Value):
 In w0 (w.setCell ⟨b,off,none⟩ v) (pts b (.cells (cs.setIfInBounds off v) T fr)::l):=by
 refine h.turn ⟨rfl,rfl,rfl,by simp⟩ ?_ (fun k _ hk=>Below.heap_setCell _ _ _ _ hk)
 have hb:=h.block
 simp[World.setCell,Array.getElem?_modify,hb]
theorem In.cell {b off:Nat} {cs:Array Value} {T:TypeId} {fr:Nat × Nat} (h:In w0 w (pts b (.cells cs T fr)::l)):w.cell? ⟨b,off,none⟩=cs[off]? :=by
 have hb:=h.block
 simp[World.cell?,hb]
theorem In.frozen {b off:Nat} {cs:Array Value} {T:TypeId} (h:In w0 w (pts b (.cells cs T (0,0))::l)):w.frozen? ⟨b,off,none⟩=false:=by
 have hb:=h.block
 simp[World.frozen?,hb]
end
instance :Coe Nat Value:=⟨fun b=>.pointer (some ⟨b,0,none⟩)⟩
abbrev Yk (a0 a1 a2 a3:Value) (a4:Int) (a5:Value) (a38:Bool):Obj:= .cells #[a0,a1,a2,a3,.int .i64 a4,a5,.bool false,.bool false,.bool false,.bool false,.bool false,.bool false,.bool false,.bool false,.bool false,.bool false,.bool false,.bool false,.bool false,.bool false,.bool false,.bool false,.bool false,.bool false,.bool false,.bool false,.bool false,.bool false,.bool false,.bool false,.bool false,.bool false,.bool false,.bool false,.bool false,.bool false,.bool false,.bool false,.bool a38] 198
abbrev Ir:Obj:= .cells #[.int .i64 0,.bool false,.int .u32 0,.int .u32 0,.int .u32 0,.int .i64 0,.int .i64 0,.int .i64 0,.int .i64 0,.int .u32 0,.slice none 0 0,.slice none 0 0] 46
abbrev wL:Obj:= .cells #[.int .u32 0,.int .u32 0,.int .u32 0] 39
abbrev qo (a0 a1 a2 a3 a4:Int):Obj:= .cells #[.int .i64 a0,.int .i64 a1,.int .i64 a2,.int .i64 a3,.int .u32 a4] 42
abbrev uf (a0 a1 a2 a3 a4 a5:Int):Obj:= .cells #[.int .i64 a0,.int .i64 a1,.int .i64 a2,.int .u32 a3,.int .u32 a4,.int .u32 a5] 50
abbrev Rl (a0 a1:Int) (a6:Bool) (a7 a8:Int):Obj:= .cells #[.int .i64 a0,.int .i64 a1,.slice none 0 0,.slice none 0 0,.slice none 0 0,.slice none 0 0,.bool a6,.int .i64 a7,.int .i64 a8,.slice none 0 0,.slice none 0 0,.slice none 0 0,.slice none 0 0] 66
abbrev EG (a0 a1 a2 a3 a4:Int) (a5:Bool) (a6 a7:Int):Obj:= .cells #[.int .i64 a0,.int .i64 a1,.int .i64 a2,.int .i64 a3,.int .u32 a4,.bool a5,.int .i64 a6,.int .i64 a7] 102
abbrev UF (a0:Int) (a1:Bool) (a2 a3 a4 a5 a6 a7 a8 a9:Int):Obj:= .cells #[.int .i64 a0,.bool a1,.int .u32 a2,.int .u32 a3,.int .u32 a4,.int .i64 a5,.int .i64 a6,.int .i64 a7,.int .i64 a8,.int .u32 a9,.slice none 0 0,.slice none 0 0] 46
abbrev Nv (a0 a1 a2 a3 a4 a5 a6 a7:Int):Obj:= .cells #[.int .i64 a0,.int .i64 a1,.int .i64 a2,.int .u64 a3,.int .i64 a4,.int .i64 a5,.int .i64 a6,.int .u32 a7] 268
abbrev OH (a0 a1 a2 a3 a4 a5 a6:Int):Obj:= .cells #[.int .i64 a0,.int .i64 a1,.int .i64 a2,.int .u32 a3,.int .u32 a4,.int .u32 a5,.int .u32 a6] 206
abbrev BB (a0 a1:Int) (a2:Bool) (a3 a4 a5:Int) (a6:Value) (a7:Int):Obj:= .cells #[.int .i64 a0,.int .i64 a1,.bool a2,.int .i64 a3,.int .u32 a4,.int .i64 a5,a6,.int .u32 a7] 52
abbrev RY (a0 a1 a9 a10 a11 a12:Int):Obj:= .cells #[.int .i64 a0,.int .i64 a1,.slice none 0 0,.slice none 0 0,.slice none 0 0,.slice none 0 0,.slice none 0 0,.slice none 0 0,.slice none 0 0,.int .i64 a9,.int .i64 a10,.int .i64 a11,.int .i64 a12] 30
abbrev mi (a0:Bool) (a1:Int):Obj:= .cells #[.bool a0,.int .i64 a1] 116
abbrev JZ (a0 a1:Int) (a2:Bool) (a3 a4 a5 a7:Int):Obj:= .cells #[.int .i64 a0,.int .i64 a1,.bool a2,.int .i64 a3,.int .u32 a4,.int .i64 a5,.slice none 0 0,.int .u32 a7] 52
abbrev NY (a0 a1 a2 a3 a4:Int) (a6:Bool):Obj:= .cells #[.int .i64 a0,.int .i64 a1,.int .i64 a2,.int .u32 a3,.int .u32 a4,.slice none 0 0,.bool a6] 138
abbrev JX (a3:Int):Obj:= .cells #[.slice none 0 0,.slice none 0 0,.slice none 0 0,.int .i64 a3] 109
abbrev CO (a0 a1 a2:Int):Obj:= .cells #[.int .i64 a0,.int .i64 a1,.int .u32 a2] 204
abbrev Ua (a0:Int) (a1:Bool) (a2 a3 a4 a5 a6 a7 a8 a9:Int) (a10 a11:Value):Obj:= .cells #[.int .i64 a0,.bool a1,.int .u32 a2,.int .u32 a3,.int .u32 a4,.int .i64 a5,.int .i64 a6,.int .i64 a7,.int .i64 a8,.int .u32 a9,a10,a11] 46
abbrev iZ (a0:Value):Obj:= .cells #[a0] 276
abbrev DR (a0:Int) (a1:Value) (a2 a3:Int):Obj:= .cells #[.int .i64 a0,a1,.int .i64 a2,.int .i64 a3] 358
abbrev Il (a0 a1 a2:Int):Obj:= .cells #[.int .u32 a0,.int .u32 a1,.int .u32 a2] 263
abbrev wC (a0:Int):Obj:= .cells #[.int .i64 a0] 3
abbrev Ik (a0 a1:Int):Obj:= .cells #[.int .i64 a0,.int .i64 a1] 54
abbrev Ic (a0 a1:Int) (a2:Value):Obj:= .cells #[.int .i64 a0,.int .i64 a1,a2] 123
abbrev SG (a0 a1:Int) (a2 a4 a5:Value) (a6:Bool) (a7 a8:Int) (a9 a10 a11 a12:Value):Obj:= .cells #[.int .i64 a0,.int .i64 a1,a2,.slice none 0 0,a4,a5,.bool a6,.int .i64 a7,.int .i64 a8,a9,a10,a11,a12] 66
abbrev NV (a0 a1:Int) (a2 a3 a4 a5:Value) (a6:Bool) (a7 a8:Int) (a9 a10 a11 a12:Value):Obj:= .cells #[.int .i64 a0,.int .i64 a1,a2,a3,a4,a5,.bool a6,.int .i64 a7,.int .i64 a8,a9,a10,a11,a12] 66
abbrev PQ (a0:Bool) (a1 a2:Int):Obj:= .cells #[.bool a0,.int .u64 a1,.int .u32 a2] 373
abbrev Xe (a0:Value) (a3:Int):Obj:= .cells #[a0,.slice none 0 0,.slice none 0 0,.int .i64 a3] 109
abbrev Xq (a0:Value) (a1 a2 a3 a4:Int):Obj:= .cells #[a0,.int .i64 a1,.int .i64 a2,.int .i64 a3,.int .i64 a4] 56
abbrev L6 (a0:Bool) (a1:Int):Obj:= .cells #[.bool a0,.int .i64 a1] 145
abbrev Iq (a0:Int):Obj:= .cells #[.int .u32 a0] 38
abbrev Y4 (a0 a1 a2 a3:Int):Obj:= .cells #[.int .i64 a0,.int .i64 a1,.int .i64 a2,.int .i64 a3] 54
abbrev Zc (a0 a1 a2 a3:Int):Obj:= .cells #[.int .i64 a0,.int .i64 a1,.int .i64 a2,.int .i64 a3] 3
abbrev EP (a0 a1 a2:Value) (a3:Int):Obj:= .cells #[a0,a1,a2,.int .i64 a3] 109
def Row (E:TypeId) (size:Nat) (v:Value) (n:Nat) (cs:List Value):SL:=fun h=>
 cs.length=n*size∧n≤maxLen∧(∀u∈cs,u.oneCell'=true)∧
 ((v= .slice none 0 0∧n=0∧h=Hp.nil)∨
  ∃g cap ext,v= .slice (some ⟨g,0,none⟩) n cap∧n≤cap∧cap≤maxLen∧ext.length=(cap-n)*size∧pts g (.cells (cs++ext).toArray E (0,0)) h)
section
variable {w0 w:World} {l:List SL} {E:TypeId} {size:Nat} {v:Value} {n:Nat} {cs:List Value}
theorem In.dh (h:In w0 w l) (E size):In w0 w (Row E size (.slice none 0 0) 0 []::l):=
 (In.Ce.2 h).head fun _ e=>⟨by simp,by simp,by simp,.inl ⟨rfl,rfl,e⟩⟩
theorem In.pJ (h:In w0 w (Row E size v n cs::l)):cs.length=n*size∧n≤maxLen:=by
 obtain⟨_,x,⟨h1,_,⟨a,b,_⟩,_,_⟩,_⟩:=h
 exact⟨a,b⟩
theorem In.row_one (h:In w0 w (Row E size v n cs::l)):∀u∈cs,u.oneCell'=true:=by
 obtain⟨_,x,⟨h1,_,⟨_,_,b,_⟩,_,_⟩,_⟩:=h
 exact b
theorem In.aU (h:In w0 w (Row E size v n cs::l)):
 (v= .slice none 0 0∧n=0∧cs= []∧In w0 w l)∨
 ∃g cap ext,v= .slice (some ⟨g,0,none⟩) n cap∧n≤cap∧cap≤maxLen∧List.length ext=(cap-n)*size∧In w0 w (pts g (.cells (cs++ext).toArray E (0,0))::l):=by
 obtain⟨e,x,⟨h1,h2,⟨a,hm,_,b⟩,s,c⟩,m⟩:=h
 rcases b with⟨rfl,rfl,rfl⟩|⟨g,cap,ext,rfl,h3,h4,h5,h6⟩
 ·left
  refine⟨rfl,rfl,by simpa using a,e,h2,s,m.left c.comm⟩
 ·right
  exact⟨g,cap,ext,rfl,h3,h4,h5,e,x,⟨h1,h2,h6,s,c⟩,m⟩
theorem In.nJ {g cap:Nat} {ext:List Value} (h:In w0 w (pts g (.cells (cs++ext).toArray E (0,0))::l)) (hl:cs.length=n*size) (hn:n≤cap) (hc:cap≤maxLen)
 (he:ext.length=(cap-n)*size) (h1:∀u∈cs,u.oneCell'=true):In w0 w (Row E size (.slice (some ⟨g,0,none⟩) n cap) n cs::l):=
 h.head fun _ p=>⟨hl,Nat.le_trans hn hc,h1,.inr ⟨g,cap,ext,rfl,hn,hc,he,p⟩⟩
theorem In.row_of (h:In w0 w l) (hl:cs.length=n*size) {g cap:Nat} {w':World} {cur:Array Value} (he:Env w w') (hb:w'.heap[g]? =some (.cells cur E (0,0))) (hlt:w.heap.size≤g)
 (hk:∀k,k<w.heap.size→w'.heap[k]? =w.heap[k]?) (hn:n≤cap) (hc:cap≤maxLen) (hs:cur.size=cap*size) (ht:cur.toList.take (n*size)=cs) (h1:∀u∈cs,u.oneCell'=true):
 In w0 w' (Row E size (.slice (some ⟨g,0,none⟩) n cap) n cs::l):=by
 have h2:=h.fresh he hb hlt hk
 have e1:cur=(cs++cur.toList.drop (n*size)).toArray:=by
  rw[←ht,List.take_append_drop]
 rw[e1]at h2
 refine h2.nJ hl hn hc ?_ h1
 rw[List.length_drop,Array.length_toList,hs,Nat.sub_mul]
theorem In.NG {ao:Option Addr} {m cap k:Nat} (h:In w0 w (Row E size (.slice ao m cap) n cs::l)) (hk:k≤n):In w0 w (Row E size (.slice ao k cap) k (cs.take (k*size))::l):=by
 have hl:=h.pJ
 have ho:=h.row_one
 rcases h.aU with⟨e,rfl,rfl,h1⟩|⟨g,cap',ext,e,h1,h2,h3,h4⟩
 ·cases e
  have:k=0:=by omega
  subst this
  have:=h1.dh E size
  simpa using this
 ·cases e
  have hks:k*size≤n*size:=Nat.mul_le_mul_right _ hk
  have e1:cs++ext=cs.take (k*size)++(cs.drop (k*size)++ext):=by rw[←List.append_assoc,List.take_append_drop]
  rw[e1]at h4
  refine h4.nJ (by simp;omega) (by omega) h2 ?_ (fun u hu=>ho u (List.mem_of_mem_take hu))
  rw[List.length_append,List.length_drop,h3,hl.1,Nat.sub_mul,Nat.sub_mul]
  have:n*size≤cap*size:=Nat.mul_le_mul_right _ h1
  omega
theorem In.gI {g m cap off:Nat} (h:In w0 w (Row E size (.slice (some ⟨g,0,none⟩) m cap) n cs::l)) {u:Value} (hu:cs[off]? =some u):w.cell? ⟨g,off,none⟩=some u:=by
 rcases h.aU with⟨a,_⟩|⟨g',cap',ext,a,_,_,_,h1⟩
 ·cases a
 ·cases a
  rw[h1.cell]
  have:off<cs.length:=(List.getElem?_eq_some_iff.1 hu).1
  simp[List.getElem?_append_left this,hu]
theorem In.fH {g m cap off:Nat} (h:In w0 w (Row E size (.slice (some ⟨g,0,none⟩) m cap) n cs::l)):w.frozen? ⟨g,off,none⟩=false:=by
 rcases h.aU with⟨a,_⟩|⟨g',cap',ext,a,_,_,_,h1⟩
 ·cases a
 ·cases a
  exact h1.frozen
theorem In.qU {g m cap off:Nat} (h:In w0 w (Row E size (.slice (some ⟨g,0,none⟩) m cap) n cs::l)) (hoff:off<cs.length) {u:Value} (hu:u.oneCell'=true):
 In w0 (w.setCell ⟨g,off,none⟩ u) (Row E size (.slice (some ⟨g,0,none⟩) m cap) n (cs.set off u)::l):=by
 have hl:=h.pJ
 have ho:=h.row_one
 rcases h.aU with⟨a,_⟩|⟨g',cap',ext,a,h1,h2,h3,h4⟩
 ·cases a
 ·cases a
  have h5:=h4.setCell (off:=off) u
  have e1:((cs++ext).toArray.setIfInBounds off u)=(cs.set off u++ext).toArray:=by
   simp[List.set_append,hoff]
  rw[e1]at h5
  refine h5.nJ (by simpa using hl.1) h1 h2 h3 fun x hx=>?_
  rcases List.mem_or_eq_of_mem_set hx with hx|rfl
  ·exact ho x hx
  ·exact hu
theorem FH {P:Program} {t ty:TypeId} {i:TypeInfo} {z:Value} {bytes:Nat} (ht:P.underlying t=some (.slice E)) (hi:P.info? E=some i) (hz:i.zero=some z)
 (hsize:i.size=size) (hby:i.bytes=bytes) (hzs:z.cells.size=size) (hsz:0<size) (h:In w0 w (Row E size v n cs::l))
 {x:Value} {ad:Addr} {m c:Nat} {news:List Value} (hx:x= .slice (some ad) m c) (hl:news.length=m*size) (hnews:∀j u,news[j]? =some u→w.cell? (ad.add j)=some u) (h1:∀u∈news,u.oneCell'=true)
 (h63:n+m≤maxLen) (hbytes:(n+m)*bytes≤140737488355328):
 ∃v' w',(Builtin.append_ #[t,t] ty #[v,x]).run P w= .ok v' w'∧In w0 w' (Row E size v' (n+m) (cs++news)::l)∧(v'= .slice none 0 0↔v= .slice none 0 0∧m=0):=by
 subst hx
 subst hsize
 subst hby
 have hcl:=h.pJ
 have hone:∀u∈cs++news,u.oneCell'=true:=fun u hu=>(List.mem_append.1 hu).elim (h.row_one u) (h1 u)
 have hsmall:n+m≤9223372036854775807:=by simp only[maxLen]at h63;omega
 have hlen:(cs++news).length=(n+m)*i.size:=by rw[List.length_append,hcl.1,hl,Nat.add_mul]
 have grown:∀(l':List SL),In w0 w l'→∀(old:Nat),old<n+m→
  In w0 (w.drew.alloc (.cells (cs.toArray++news.toArray++Builtin.zeroCells z.cells (grownCap w (n+m) old E-(n+m))) E))
   (Row E i.size (.slice (some ⟨w.heap.size,0,none⟩) (n+m) (grownCap w (n+m) old E)) (n+m) (cs++news)::l'):=by
  intro l' hl' old ho
  have hge:=grownCap_ge w (n+m) old E
  have hcm:grownCap w (n+m) old E≤maxLen:=grownCap_le_maxLen w (n+m) old E h63
  refine hl'.row_of hlen ⟨rfl,rfl,rfl,by simp⟩ (heap_alloc_new w.drew _) (Nat.le_refl _) (fun k hk=>Below.heap_alloc w.drew _ k hk) hge hcm ?_ ?_ hone
  ·simp only[Array.size_append,List.size_toArray,size_zeroCells,hzs,hcl.1,hl,←Nat.add_mul]
   congr 1
   omega
  ·simp only[Array.toList_append,List.append_assoc]
   rw[←List.append_assoc,←hlen]
   exact List.take_left
 rcases h.aU with⟨rfl,rfl,rfl,h2⟩|⟨g,cap,ext,rfl,h2,h3,h4,h5⟩
 ·by_cases hm:m=0
  ·subst hm
   have hn:news= []:=List.eq_nil_of_length_eq_zero (by simpa using hl)
   subst hn
   refine⟨.slice none 0 0,w,?_,by simpa using h,by simp⟩
   simp[Builtin.append_,run_underlying ht,sizeOf,typeInfo,hi,Builtin.lenOf,Builtin.firstCells,loadCells,loadCellsFrom]
  ·have hr:=run_append_nil (P:=P) w t ty E i z ht hi hz ad m c news hl hnews (by omega) (by omega) (by have hb:=hbytes;simp only[Nat.zero_add]at hb;omega)
   have hg:=grown l h2 0 (by omega)
   simp only[Nat.zero_add,List.nil_append,Array.empty_append]at hg⊢
   exact⟨_,_,hr,hg,by simp[hm]⟩
 ·by_cases hroom:n+m≤cap
  ·have hfit:n*i.size+news.length≤(cs++ext).toArray.size:=by
    simp only[List.size_toArray,List.length_append,hcl.1,h4,hl]
    rw[←Nat.add_mul,←Nat.add_mul]
    exact Nat.mul_le_mul_right _ (by omega)
   have hr:=run_append_room (P:=P) w t ty E i ht hi g n cap (cs++ext).toArray h5.block ad m c news hl hnews h1 hroom hfit
   have e1:(cs++ext).toArray.toList.take (n*i.size)=cs:=by
    simp only[List.toList_toArray];rw[←hcl.1];exact List.take_left
   have e2:cs++news++(cs++ext).toArray.toList.drop (n*i.size+news.length)=(cs++news)++ext.drop news.length:=by
    simp only[List.toList_toArray,←hcl.1,List.drop_append]
    simp
   rw[e1,e2]at hr
   refine⟨_,_,hr,?_,by simp⟩
   have h6:=h5.turn (w':=w.setRow g ((cs++news)++ext.drop news.length).toArray) ⟨rfl,rfl,rfl,by simp⟩
    (setRow_heap w g _ _ E _ h5.block) (fun k _ hk=>setRow_other w g k _ hk)
   refine h6.nJ hlen hroom h3 ?_ hone
   rw[List.length_drop,h4,hl,←Nat.sub_mul]
   congr 1
   omega
  ·have holds:∀j u,cs[j]? =some u→w.cell? ((⟨g,0,none⟩:Addr).add j)=some u:=by
    intro j u hu
    have hadd:(⟨g,0,none⟩:Addr).add j=⟨g,j,none⟩:=by unfold Addr.add;split<;>simp_all
    rw[hadd]
    exact h.gI hu
   have hr:=run_append_grow (P:=P) w t ty E i z ht hi hz ⟨g,0,none⟩ n cap cs hcl.1 holds ad m c news hl hnews (by omega) (by omega) (growslice_fits (by omega) hbytes)
   exact⟨_,_,hr,grown l h5.drop cap (by omega),by simp⟩
theorem Iz {P:Program} {o:Oper} {a:Act} {K:Act→World→Prop} {Q:Exit→Act→World→Prop} (s x:Operand) (t:TypeId)
 (ho:o.op= .call {callee:= .builtin .append,args:=#[s,x],argTypes:=#[t,t]})
 {i:TypeInfo} {z:Value} {bytes:Nat} (ht:P.underlying t=some (.slice E)) (hi:P.info? E=some i) (hz:i.zero=some z)
 (hsize:i.size=size) (hby:i.bytes=bytes) (hzs:z.cells.size=size) (hsz:0<size) (hs:a.eval s=v) (h:In w0 w (Row E size v n cs::l))
 {ad:Addr} {m c:Nat} {news:List Value} (hx:a.eval x= .slice (some ad) m c) (hl:news.length=m*size) (hnews:∀j u,news[j]? =some u→w.cell? (ad.add j)=some u) (h1:∀u∈news,u.oneCell'=true)
 (h63:n+m≤maxLen) (hbytes:(n+m)*bytes≤140737488355328)
 (k:∀v' w',In w0 w' (Row E size v' (n+m) (cs++news)::l)→(v'= .slice none 0 0↔v= .slice none 0 0∧m=0)→K (a.put o.dst v') w'):o.wp P a w K Q:=by
 obtain⟨v',w',hr,h2,h4⟩:=FH (P:=P) (t:=t) (ty:=o.type) ht hi hz hsize hby hzs hsz h hx hl hnews h1 h63 hbytes
 rw[hx]at hr
 unfold Oper.wp execOp
 simp only[ho,resolve,invoke,builtin,Sem.run_bind,Sem.run_pure,Result.andThen_ok,List.map_toArray,List.map_cons,List.map_nil,hs,hx,hr]
 exact k v' w' h2 h4
theorem vW {P:Program} {ops:Array Oper} {rest:List Oper} {o:Oper} {a:Act} {Q:Exit→Act→World→Prop} (hgd:o.guard=none) (s x:Operand) (t:TypeId)
 (ho:o.op= .call {callee:= .builtin .append,args:=#[s,x],argTypes:=#[t,t]})
 {i:TypeInfo} {z:Value} {bytes:Nat} (ht:P.underlying t=some (.slice E)) (hi:P.info? E=some i) (hz:i.zero=some z)
 (hsize:i.size=size) (hby:i.bytes=bytes) (hzs:z.cells.size=size) (hsz:0<size) (hs:a.eval s=v) (h:In w0 w (Row E size v n cs::l))
 {ad:Addr} {m c:Nat} {news:List Value} (hx:a.eval x= .slice (some ad) m c) (hl:news.length=m*size) (hnews:∀j u,news[j]? =some u→w.cell? (ad.add j)=some u) (h1:∀u∈news,u.oneCell'=true)
 (h63:n+m≤maxLen) (hbytes:(n+m)*bytes≤140737488355328)
 (k:∀v' w',In w0 w' (Row E size v' (n+m) (cs++news)::l)→(v'= .slice none 0 0↔v= .slice none 0 0∧m=0)→wpList P ops Q rest (a.put o.dst v') w'):wpList P ops Q (o::rest) a w:=
 wpList_plain hgd fun _ hK=>Iz s x t ho ht hi hz hsize hby hzs hsz hs h hx hl hnews h1 h63 hbytes fun v' w' h2 h4=>hK _ _ (k v' w' h2 h4)
end
def mX (n:Nat) (f:Nat→Bool):Bool:=(List.range n).all f
theorem lw {n:Nat} {f:Nat→Bool}:mX n f=true↔∀i,i<n→f i=true:=by simp[mX,List.all_eq_true]
theorem dF {n k:Nat} {f:Nat→Bool} (hk:k<n) (h:f k=false):mX n f=false:=by
 cases e:mX n f with
 |false=>rfl
 |true=>rw[lw.1 e k hk]at h;cases h
theorem lC {k:Nat} {f:Nat→Bool} (h:mX k f=true) (hf:f k=true):mX (k+1) f=true:=by
 rw[lw]at h⊢
 intro i hi
 by_cases e:i=k
 ·subst e;exact hf
 ·exact h i (by omega)
def ah.Ff (T:ah) (l:List Int) (aI:Int) (i:Nat):Bool:=
 match l[i]? with
 |some r=>decide (0≤r)&&decide (r<T.bP.length)&&(decide (i=0)||decide (l.getD (i-1) 0<r))&&(match T.bP[r.toNat]? with|some x=> !x.internal&&decide (aI≤x.gJ)|none=>false)
 |none=>false
def ah.yF (T:ah) (l:List Int) (aI:Int):Bool:=mX l.length (T.Ff l aI)
def ah.vz (T:ah) (i:Int):Int:=match T.ay[i.toNat]? with|some k=>k.mask|none=>0
def ah.yT (T:ah) (a:zx) (lo hi:Int):Bool:=
 decide (lo≤a.kind)&&decide (a.kind≤hi)&&(if a.kind=1∨a.kind=2 then decide (0≤a.lL)&&decide (a.lL<T.ay.length)&&(if a.kind=1 then decide (a.mask=0) else !decide (a.mask=0)&&decide (bits .andNot .u32 a.mask (T.vz a.lL)=0)) else decide (a.lL=0)&&decide (a.mask=0))
def ah.ringAt (T:ah) (k:dn):Bool:=decide (0≤k.ring)&&decide (k.ring<T.rings.length)&&(match T.rings[k.ring.toNat]? with|some x=>decide (x.aI=k.aI)|none=>false)
def ah.ui (T:ah) (k:dn):Bool:=
 T.ringAt k&&decide (1≤k.limit)&&decide (k.limit≤255)&&(decide (k.mask=0)||decide (k.limit=1))&&
 (decide (k.internal= -1)||decide (k.aI≤k.internal)&&decide (k.internal≤127))&&T.yF k.own k.aI&&decide (k.dX/2 ^ T.modes.toNat=0)
def kJ (l:List dn) (p:Int):Int:=(l.map fun k=>if k.aI=p then k.limit else 0).sum
def iP (l:List dn):Nat→List kS
 |0=> []
 |n+1=>iP l n++(if 0<kJ l (63-n) then[⟨63-n,kJ l (63-n)⟩] else [])
def Ar (l:List dn):List kS:=iP l 64
def kS.same (x y:kS):Bool:=decide (x.aI=y.aI)&&decide (x.cap=y.cap)
def wW (a b:List kS):Bool:=decide (a.length=b.length)&&mX a.length fun i=>match a[i]?,b[i]? with|some x,some y=>x.same y|_,_=>false
def ah.zV (T:ah):Bool:=mX T.ay.length (fun i=>match T.ay[i]? with|some k=>T.ui k|none=>false)&&wW (Ar T.ay) T.rings
def xX (n:Int):Bool:=decide (1≤n)&&decide (n≤2147483647)
def xm.ok (c:xm):Bool:=xX c.max&&xX c.base&&xX c.min&&decide (c.min≤c.max)
def gq.right (a:gq) (c:xm):Bool:=decide (1≤a.time)&&decide (a.time≤c.max)&&(decide (a.cycle=0)||decide (c.min≤a.cycle)&&decide (a.cycle≤c.max))
def ah.kX (T:ah) (a:gq):Bool:=
 decide (0≤a.counter)&&decide (a.counter<T.bi.length)&&T.yT a.act 1 3&&decide (a.dX/2 ^ T.modes.toNat=0)&&
 (match T.bi[a.counter.toNat]? with|some c=>if a.dX=0 then decide (a.time=0)&&decide (a.cycle=0) else a.right c|none=>false)
def ah.ve (T:ah):Bool:=mX T.bi.length (fun i=>match T.bi[i]? with|some c=>c.ok|none=>false)&&mX T.ag.length (fun i=>match T.ag[i]? with|some a=>T.kX a|none=>false)
def kG.beside (x y:kG):Bool:= !decide (x.aI=y.aI)&&(decide (decide (x.category<y.category)=decide (y.aI<x.aI))||decide (x.category=y.category))
def ah.Cb (T:ah) (x:kG):Bool:=(decide (x.category=1)||decide (x.category=2))&&decide (64≤x.aI)&&decide (x.aI≤127)&&T.yF x.own x.aI&&(!decide (x.category=1)||decide (x.own.length=0))
def ah.J3 (T:ah):Bool:=mX T.bf.length fun i=>match T.bf[i]? with
 |some x=>T.Cb x&&mX i fun j=>match T.bf[j]? with|some y=>x.beside y|none=>false
 |none=>false
def qF.sent (m:qF):Bool:=(decide (m.length=1)||decide (m.length=2)||decide (m.length=4)||decide (m.length=8))&&decide (m.src=0)&&decide (m.init=0)&&decide (m.queue=0)&&(decide (m.act.kind=0)&&decide (m.act.lL=0)&&decide (m.act.mask=0))
def qF.Qk (m:qF) (n:Int):Bool:=decide (m.init≤4294967295)&& !(decide (1≤n)&&decide (n<8)&& !decide (m.init/2 ^ (8*n).toNat=0))
def ah.rO (T:ah) (m:qF):Bool:=
 if m.kind=1 then m.sent
 else(decide (m.kind=2)||decide (m.kind=3))&&decide (m.length=0)&&decide (0≤m.src)&&decide (m.src<T.cZ.length)&&
  (match T.cZ[m.src.toNat]? with|some f=>decide (f.kind=1)&&T.yT m.act 0 4&&m.Qk f.length|none=>false)&&
  (if m.kind=2 then decide (m.queue=0) else decide (m.init=0)&&decide (1≤m.queue)&&decide (m.queue≤16))
def ah.Gj (T:ah):Bool:=mX T.cZ.length fun i=>match T.cZ[i]? with|some m=>T.rO m|none=>false
def gY {α:Type} (l:List α) (p:α→Bool):Nat:=(l.filter p).length
def oU (T:ah):Nat→Nat
 |0=>2
 |k+1=>match T.ag[k]? with|some a=>max (oU T k) (gY (T.ag.take (k+1)) fun b=>decide (b.counter=a.counter))|none=>oU T k
def qF.from (m:qF) (c:Int):Bool:= !decide (m.kind=1)&&decide (m.src=c)
def oN (T:ah):Nat→Nat
 |0=>oU T T.ag.length
 |k+1=>match T.cZ[k]? with|some m=>if m.kind=1 then oN T k else max (oN T k) (gY (T.cZ.take (k+1)) fun b=>b.from m.src)|none=>oN T k
def ah.most (T:ah):Nat:=oN T T.cZ.length
def ah.zk (T:ah):Nat:=gY T.ag (fun a=>decide (a.act.kind=3))+gY T.cZ (fun m=>decide (m.act.kind=3))
def ah.few (T:ah):Bool:=decide (0≤T.uses)&&decide (T.uses≤255)&&decide (1≤T.modes)&&decide (T.modes≤8)&&decide (1≤T.ay.length)&&decide (T.ay.length≤256)&&decide (T.bP.length≤65)&&decide (T.bi.length≤16)&&decide (T.ag.length≤64)&&decide (T.bf.length≤32)&&decide (T.cZ.length≤64)
def ah.PO (T:ah):Bool:=mX T.bP.length fun i=>match T.bP[i]? with|some r=>decide (-1≤r.gJ)&&decide (r.gJ≤127)|none=>false
def ah.Pe (T:ah):Bool:=mX T.ay.length fun i=>match T.ay[i]? with|some k=>decide (0≤k.aI)&&decide (k.aI≤63)|none=>false
def ah.P6 (T:ah):Bool:=decide (T.depth=T.rings.length)&&decide (T.frames=T.bf.length+4)&&decide (T.errors=T.most)&&decide (T.dU=T.zk)
def ah.check (T:ah):Bool:=T.few&&T.PO&&T.Pe&&T.zV&&T.ve&&T.J3&&T.Gj&&T.P6
end Go.Proofs.YtajgpcnlehinbaaGreat
