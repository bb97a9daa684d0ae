/- Part of a proof. -/
import Derived.Test.YtajgpcnlehinbaaGreatA29
namespace Go.Proofs.YtajgpcnlehinbaaGreat
open Tryz Go.RowKit
set_option maxRecDepth 100000
set_option maxHeartbeats 60000000
set_option linter.all false
def Qh (st:Int) (idle:Bool) (v:Int × Int × Int) (f:aK) (vb vx:Value):Value:= .agg #[.int .i64 st,.bool idle,.int .u32 v.1,.int .u32 v.2.1,.int .u32 v.2.2,.int .i64 f.kind,.int .i64 f.id,.int .i64 f.status,.int .i64 f.service,.int .u32 f.jC,vb,vx]
structure XJ (T:ah) (k:aB) (s:iH):Prop where
 sv:tN s.service (jG k.top.kind (T.FN k.top))=true→GX T k s k.top
 cat:k.top.kind=2→∃(n:Nat) (x:kG),k.top.id=n∧T.bf[n]? =some x
 er:k.eH=false→k.errors.items.length<k.errors.room
 er2:(k.serve T s k.top).2.2≠0→(k.serve T s k.top).1.eH=false→(k.serve T s k.top).1.errors.items.length<(k.serve T s k.top).1.errors.room
theorem U9 {n:Int} (h:1≤n∧n≤26):∃fn,UD n=some fn:=by
 have hc:n=1∨n=2∨n=3∨n=4∨n=5∨n=6∨n=7∨n=8∨n=9∨n=10∨n=11∨n=12∨n=13∨n=14∨n=15∨n=16∨n=17∨n=18∨n=19∨n=20∨n=21∨n=22∨n=23∨n=24∨n=25∨n=26:=by omega
 rcases hc with rfl|rfl|rfl|rfl|rfl|rfl|rfl|rfl|rfl|rfl|rfl|rfl|rfl|rfl|rfl|rfl|rfl|rfl|rfl|rfl|rfl|rfl|rfl|rfl|rfl|rfl<;>exact⟨_,rfl⟩
theorem XC {n:Int} (h:¬(1≤n∧n≤26)):UD n=none:=by
 unfold UD
 simp only[upd]
 repeat(first|rfl|rw[if_neg (by omega)])
theorem Zr:∀w,(zeroValue 180).run prog w= .ok (.nilFunc) w:=fun w=>by kernel_rfl
section
variable {w0 w:World} {l:List SL} {r:Nat} {T:ah} {k:aB} {G:Value→Prop}
theorem Za (h:In w0 w (eF G r T k::l)) (s:iH) (n:XJ T k s):Calls prog 34 #[.pointer (some ⟨r,0,none⟩),iL s] w fun e w'=>
 e= .returned (Qh (k.call T s).2.2 false (k.call T s).2.1 .zero (.slice none 0 0) (.slice none 0 0))∧In w0 w' (eF G r T (k.call T s).1::l):=by
 have hdef:k.call T s=(let p:aB × (Int × Int × Int) × Int:=if(decide (1≤s.service)&&decide (s.service≤26))=false then(k,(0,0,0),3) else if tN s.service (jG k.top.kind (T.FN k.top))=false then(k,(0,0,0),2)
  else if(k.shut&& !(decide (10≤s.service)&&decide (s.service≤15))) then(k,(0,0,0),10) else k.serve T s k.top
  if p.2.2=0 then p else(p.1.fail T p.2.2 s.service (if(decide (1≤s.service)&&decide (s.service≤26))&&decide (0<oC s.service) then s.a else 0),(0,0,0),p.2.2)):=rfl
 have Ls:=fun hm h1=>VO (w0:=w0) (r:=r) (G:=G) (n.sv hm) h1
 have Lp:T.FN k.top=if k.top.kind=2 then(match T.bf[k.top.id.toNat]? with|some x=>x.category|none=>0) else 0:=rfl
 have RS:=n.cat
 have her:=n.er
 have Yd:=n.er2
 clear n
 generalize hres:k.call T s=res at*
 rcases res with⟨kr,⟨r1,r2,r3⟩,rs⟩
 generalize ae3:k.serve T s k.top=srv at*
 generalize hf:k.top=f at*
 generalize hct:T.FN f=ct at*
 replace hdef:∃_:Unit,_:=⟨(),hdef⟩
 clear hres ae3
 rcases srv with⟨ks,⟨s1,s2,s3⟩,es0⟩
 rcases s with⟨sk,si,sv,sa,sb,sc⟩
 rcases f with⟨kd,id,st,fv,pa⟩
 unfold iL Qh aK.zero at*
 simp only at*
 have h1:=h.alloc2 (uf sk si sv sa sb sc) Ir
 have Eo:∀w' l',In w0 w' (eF G r T k::l')→_:=fun w' l' h=>Fj (l:=l') h
 rw[hf]at Eo
 unfold cO at Eo Ls
 simp only at Eo Ls
 clear hf
 go_enter func34,ntmps34
 go_upto_region 1 with(fail)
 refine In.abs h1 ?_
 clear h1 h
 generalize w.heap.size=z
 intro w2 h2
 have htp:=Eo _ _ (h2.ae p2)
 go_upto_region 3 with(go_at_call 33;refine bF htp ?_;intro w3 h3)
 have h4:=h3.alloc (qo kd id st fv pa)
 refine In.abs h4 ?_
 clear h4 h3 h2 htp
 generalize w3.heap.size=y
 intro w4 h4
 rename_i K5 hK5 Kc hKc
 have Ye:∀(cat:Int) (u15 u16 u17 u18 u19 u20 u21 u22 u23 u24 u25 u26 u27:Value) w',cat=ct→In w0 w' (eF G r T k::pts y (qo kd id st fv pa)::pts (z+1) Ir::pts z (uf sk si sv sa sb sc)::l)→K5 {tmps:=#[.pointer (some ⟨r,0,none⟩),.agg #[.int .i64 sk,.int .i64 si,.int .i64 sv,.int .u32 sa,.int .u32 sb,.int .u32 sc],undef,.pointer (some ⟨z,0,none⟩),.pointer (some ⟨z+1,0,none⟩),.pointer (some ⟨y,0,none⟩),.int .i64 cat,undef,undef,undef,undef,undef,undef,.pointer (some ⟨r,0,none⟩),.agg #[.int .i64 kd,.int .i64 id,.int .i64 st,.int .i64 fv,.int .u32 pa],u15,u16,u17,u18,u19,u20,u21,u22,u23,u24,u25,u26,u27,undef,undef,undef,undef,undef,undef,undef,undef,undef,undef,undef,undef,undef,undef,undef,undef,undef,undef,undef,undef,undef,undef,undef,undef,undef,undef,undef,undef,undef,undef,undef,undef,undef,undef,undef,undef,undef,undef,undef,undef,undef,undef,undef,undef,undef,undef,undef,undef,undef,undef,undef,undef,undef,undef,undef,undef,undef,undef,undef,undef,undef,undef,undef],defers:= []} w':=by
  clear hKc h4 RS Lp
  intro cat u15 u16 u17 u18 u19 u20 u21 u22 u23 u24 u25 u26 u27 w5 hcc h5
  subst hcc
  refine hK5 _ _ ?_
  clear hK5
  have fZ:=(h5.ae p3).cells
  go_upto_region 5 with(fail)
  rename_i K6 hK6
  have QB:∀(g:Bool) (u28 u29 u30 u31 u32 u33 u34 u35:Value) w',g=(decide (10≤sv)&&decide (sv≤15))→In w0 w' (eF G r T k::pts y (qo kd id st fv pa)::pts (z+1) Ir::pts z (uf sk si sv sa sb sc)::l)→K6 {tmps:=#[.pointer (some ⟨r,0,none⟩),.agg #[.int .i64 sk,.int .i64 si,.int .i64 sv,.int .u32 sa,.int .u32 sb,.int .u32 sc],undef,.pointer (some ⟨z,0,none⟩),.pointer (some ⟨z+1,0,none⟩),.pointer (some ⟨y,0,none⟩),.int .i64 cat,.bool g,undef,undef,undef,undef,undef,.pointer (some ⟨r,0,none⟩),.agg #[.int .i64 kd,.int .i64 id,.int .i64 st,.int .i64 fv,.int .u32 pa],u15,u16,u17,u18,u19,u20,u21,u22,u23,u24,u25,u26,u27,u28,u29,u30,u31,u32,u33,u34,u35,undef,undef,undef,undef,undef,undef,undef,undef,undef,undef,undef,undef,undef,undef,undef,undef,undef,undef,undef,undef,undef,undef,undef,undef,undef,undef,undef,undef,undef,undef,undef,undef,undef,undef,undef,undef,undef,undef,undef,undef,undef,undef,undef,undef,undef,undef,undef,undef,undef,undef,undef,undef,undef,undef,undef],defers:= []} w':=by
   clear h5 fZ
   intro g u28 u29 u30 u31 u32 u33 u34 u35 w6 hg h6
   replace hg:∃_:Unit,_:=⟨(),hg⟩
   refine hK6 _ _ ?_
   clear hK6
   have fZ:=(h6.ae p3).cells
   go_upto_region 6 with(fail)
   have hsr:=Nl h6.drew
   have hS0:=(h6.drew).ps [3]
   refine nK hS0 ⟨[0], []⟩ [.c 0 1,.c 2 2,.e 0,.c 1 3,.c 0 4,.c 0 5,.c 0 6,.c 0 7,.c 0 8] ?_
   refine nD ?_;intro K hK
   go_wp2_with (go_at_call 82;refine Calls.mono hsr ?_;rintro _ w7 ⟨m,rfl,h7⟩)
   clear fZ hsr h6
   have hlk0:=fU nG underlying182 Zr h7 sv true
   have ae4:∃(dv:Value) (there:Bool),ut (UD sv) Io .nilFunc true= .tuple #[dv,.bool there]∧there=(decide (1≤sv)&&decide (sv≤26))∧(there=true→tN sv (jG kd cat)=true→∃fn,dv= .func (.func fn) #[] #[]∧(∀args w,(callFunc fn args).run prog w= .ok (.enter fn args) w)∧∀w' l',In w0 w' (eF G r T k::l')→Calls prog fn #[.pointer (some ⟨r,0,none⟩),.agg #[.int .i64 sk,.int .i64 si,.int .i64 sv,.int .u32 sa,.int .u32 sb,.int .u32 sc],.agg #[.int .i64 kd,.int .i64 id,.int .i64 st,.int .i64 fv,.int .u32 pa]] w' (qH w0 G r T l' (ks,(s1,s2,s3),es0))):=by
    by_cases hin:1≤sv∧sv≤26
    ·obtain⟨fn0,e0⟩:=U9 hin
     refine⟨.func (.func fn0) #[] #[],true,by rw[e0];rfl,by simp[hin.1,hin.2],fun _ hm=>?_⟩
     obtain⟨fn,e1,e2,e3⟩:=Ls hm hin
     rw[e0]at e1
     cases e1
     exact⟨fn0,rfl,e2,e3⟩
    ·refine⟨.nilFunc,false,by rw[XC hin];rfl,?_,fun h=>by cases h⟩
     cases hd1:decide (1≤sv)with
     |false=>rfl
     |true=>
      have:=of_decide_eq_true hd1
      simp only[Bool.true_and]
      rw[decide_eq_false (by omega)]
   obtain⟨dv,there,hdv,hth,hgo⟩:=ae4
   rw[hdv]at hlk0
   clear hdv Ls
   replace hth:∃_:Unit,_:=⟨(),hth⟩
   have fZ:=(h7.ae p4).cells
   unfold gZ at hlk0
   go_wp2_with fail
   refine df hK ((h7).s) fun hS0=>?_
   refine wM ?_
   clear hlk0
   go_upto_region 10 with(fail)
   have Lu:=(h7.ae p1).alloc wL
   refine In.abs Lu ?_
   clear Lu h7 fZ
   generalize w7.heap.size=q
   intro w8 h8
   have h9:=h8.pr [1,0,1,1,1,0]
   clear h8
   rename_i K16 acF Kc2 ae5
   have Dx:∀(k1:aB) (v1 v2 v3 es:Int) (M:SL) (u7 u8 u15 u16 u17 u18 u19 u20 u21 u22 u23 u24 u25 u26 u27 u28 u29 u30 u31 u32 u33 u34 u35 u36 u37 u38 u39 u40 u41 u42 u43 u44 u45 u46 u47 u48 u49 u50 u51 u52 u53 u54 u55 u56 u57 u58 u59 u60 u61 u62 u63 u64 u65 u66 u67 u68 u69:Value) w',((kr,(r1,r2,r3),rs):aB × (Int × Int × Int) × Int)=(if es=0 then(k1,(v1,v2,v3),es) else(k1.fail T es sv (if there&&decide (0<oC sv) then sa else 0),(0,0,0),es))→
    (es≠0→k1.eH=false→k1.errors.items.length<k1.errors.room)→In w0 w' (eF G r T k1::pts q (.cells #[.int .u32 v1,.int .u32 v2,.int .u32 v3] 39)::pts y (qo kd id st fv pa)::pts (z+1) Ir::pts z (uf sk si sv sa sb sc)::M::l)→K16 {tmps:=#[.pointer (some ⟨r,0,none⟩),.agg #[.int .i64 sk,.int .i64 si,.int .i64 sv,.int .u32 sa,.int .u32 sb,.int .u32 sc],undef,.pointer (some ⟨z,0,none⟩),.pointer (some ⟨z+1,0,none⟩),.pointer (some ⟨y,0,none⟩),.int .i64 cat,u7,u8,.bool there,.pointer (some ⟨q,0,none⟩),.int .i64 es,undef,.pointer (some ⟨r,0,none⟩),.agg #[.int .i64 kd,.int .i64 id,.int .i64 st,.int .i64 fv,.int .u32 pa],u15,u16,u17,u18,u19,u20,u21,u22,u23,u24,u25,u26,u27,u28,u29,u30,u31,u32,u33,u34,u35,u36,u37,u38,u39,u40,u41,u42,u43,u44,u45,u46,u47,u48,u49,u50,u51,u52,u53,u54,u55,u56,u57,u58,u59,u60,u61,u62,u63,u64,u65,u66,u67,u68,u69,undef,undef,undef,undef,undef,undef,undef,undef,undef,undef,undef,undef,undef,undef,undef,undef,undef,undef,undef,undef,undef],defers:= []} w':=by
    clear hgo hdef hg h9 her Yd hth ae5 hK hct Eo
    clear hS0
    intro k1 v1 v2 v3 es M u7 u8 u15 u16 u17 u18 u19 u20 u21 u22 u23 u24 u25 u26 u27 u28 u29 u30 u31 u32 u33 u34 u35 u36 u37 u38 u39 u40 u41 u42 u43 u44 u45 u46 u47 u48 u49 u50 u51 u52 u53 u54 u55 u56 u57 u58 u59 u60 u61 u62 u63 u64 u65 u66 u67 u68 u69 w1 yD hroom h1
    refine acF _ _ ?_
    clear acF
    by_cases hes:es=0
    ·subst hes
     rw[if_pos rfl]at yD
     cases yD
     clear hroom
     have UC:=(h1.ae p1).cells
     have QC:=(h1.ae p3).cells
     have QD:=(h1.ae p3).free
     go_wp2_with fail
     have h2:=(h1.ae p3).fill [.int .i64 0,.bool false,.int .u32 r1,.int .u32 r2,.int .u32 r3,.int .i64 0,.int .i64 0,.int .i64 0,.int .i64 0,.int .u32 0,.slice none 0 0,.slice none 0 0] rfl
     simp only[dm]at h2
     refine In.abs h2 ?_
     clear h2 h1 UC QC QD
     intro w2 h2
     have hc:=h2.cells
     refine bodyPost_ret (v:= .agg #[.int .i64 0,.bool false,.int .u32 r1,.int .u32 r2,.int .u32 r3,.int .i64 0,.int .i64 0,.int .i64 0,.int .i64 0,.int .u32 0,.slice none 0 0,.slice none 0 0]) (by simp[results,results34,go_sem,hc]) rfl ?_
     exact⟨rfl,h2.s⟩
    ·rw[if_neg hes]at yD
     have agf:(es != 0)=true:=by simpa using hes
     replace hroom:=hroom hes
     cases there with
     |false=>
      simp only[Bool.false_and,Bool.false_eq_true,if_false]at yD
      cases yD
      have UC:=(h1.ae p1).cells
      have Yf:=(h1.ae p1).free
      go_upto_region 18 with(fail)
      have h2:=(h1.ae p1).fill [.int .u32 0,.int .u32 0,.int .u32 0] rfl
      simp only[dm]at h2
      refine In.abs h2 ?_
      clear h2 h1 UC Yf
      intro w2 h2
      have h3:=h2.pr [1,0,0,0,0,0]
      clear h2
      have fZ:=(h3.ae p4).cells
      have hfa:=rf h3 rs sv 0 hroom
      go_upto_region 22 with(go_at_call 87;refine bF hfa ?_;intro w4 h4)
      have UC:=(h4.ae p1).cells
      have QC:=(h4.ae p3).cells
      have QD:=(h4.ae p3).free
      go_wp2_with fail
      have h5:=(h4.ae p3).fill [.int .i64 rs,.bool false,.int .u32 0,.int .u32 0,.int .u32 0,.int .i64 0,.int .i64 0,.int .i64 0,.int .i64 0,.int .u32 0,.slice none 0 0,.slice none 0 0] rfl
      simp only[dm]at h5
      refine In.abs h5 ?_
      clear h5 h4 h3 UC QC QD fZ
      intro w5 h5
      have hc:=h5.cells
      refine bodyPost_ret (v:= .agg #[.int .i64 rs,.bool false,.int .u32 0,.int .u32 0,.int .u32 0,.int .i64 0,.int .i64 0,.int .i64 0,.int .i64 0,.int .u32 0,.slice none 0 0,.slice none 0 0]) (by simp[results,results34,go_sem,hc]) rfl ?_
      exact⟨rfl,h5.s⟩
     |true=>
      have aaU:=fun w' l' (h:In w0 w' l')=>Sz h sv
      generalize oC sv=pn at*
      cases hpp:decide (0<pn)with
      |true=>
       simp only[hpp,Bool.true_and,if_true]at yD
       cases yD
       have UC:=(h1.ae p1).cells
       have Yf:=(h1.ae p1).free
       go_upto_region 18 with(fail)
       have h2:=(h1.ae p1).fill [.int .u32 0,.int .u32 0,.int .u32 0] rfl
       simp only[dm]at h2
       refine In.abs h2 ?_
       clear h2 h1 UC Yf
       intro w2 h2
       have h3:=h2.pr [1,0,0,0,0,0]
       clear h2
       have fZ:=(h3.ae p4).cells
       have hfa:=rf h3 rs sv sa hroom
       have Yg:=aaU _ _ h3
       go_upto_region 20 with(go_at_call 86;refine bF Yg ?_;intro w3 h3b)
       clear hfa h3 fZ Yg
       have fZ:=(h3b.ae p4).cells
       have hfa:=rf h3b rs sv sa hroom
       have h3:=h3b
       go_upto_region 22 with(go_at_call 87;refine bF hfa ?_;intro w4 h4)
       have UC:=(h4.ae p1).cells
       have QC:=(h4.ae p3).cells
       have QD:=(h4.ae p3).free
       go_wp2_with fail
       have h5:=(h4.ae p3).fill [.int .i64 rs,.bool false,.int .u32 0,.int .u32 0,.int .u32 0,.int .i64 0,.int .i64 0,.int .i64 0,.int .i64 0,.int .u32 0,.slice none 0 0,.slice none 0 0] rfl
       simp only[dm]at h5
       refine In.abs h5 ?_
       clear h5 h4 h3 UC QC QD fZ
       intro w5 h5
       have hc:=h5.cells
       refine bodyPost_ret (v:= .agg #[.int .i64 rs,.bool false,.int .u32 0,.int .u32 0,.int .u32 0,.int .i64 0,.int .i64 0,.int .i64 0,.int .i64 0,.int .u32 0,.slice none 0 0,.slice none 0 0]) (by simp[results,results34,go_sem,hc]) rfl ?_
       exact⟨rfl,h5.s⟩
      |false=>
       simp only[hpp,Bool.true_and,Bool.false_eq_true,if_false]at yD
       cases yD
       have UC:=(h1.ae p1).cells
       have Yf:=(h1.ae p1).free
       go_upto_region 18 with(fail)
       have h2:=(h1.ae p1).fill [.int .u32 0,.int .u32 0,.int .u32 0] rfl
       simp only[dm]at h2
       refine In.abs h2 ?_
       clear h2 h1 UC Yf
       intro w2 h2
       have h3:=h2.pr [1,0,0,0,0,0]
       clear h2
       have fZ:=(h3.ae p4).cells
       have hfa:=rf h3 rs sv 0 hroom
       have Yg:=aaU _ _ h3
       go_upto_region 21 with(go_at_call 86;refine bF Yg ?_;intro w3 h3b)
       clear hfa h3 fZ Yg
       have fZ:=(h3b.ae p4).cells
       have hfa:=rf h3b rs sv 0 hroom
       have h3:=h3b
       go_upto_region 22 with(go_at_call 87;refine bF hfa ?_;intro w4 h4)
       have UC:=(h4.ae p1).cells
       have QC:=(h4.ae p3).cells
       have QD:=(h4.ae p3).free
       go_wp2_with fail
       have h5:=(h4.ae p3).fill [.int .i64 rs,.bool false,.int .u32 0,.int .u32 0,.int .u32 0,.int .i64 0,.int .i64 0,.int .i64 0,.int .i64 0,.int .u32 0,.slice none 0 0,.slice none 0 0] rfl
       simp only[dm]at h5
       refine In.abs h5 ?_
       clear h5 h4 h3 UC QC QD fZ
       intro w5 h5
       have hc:=h5.cells
       refine bodyPost_ret (v:= .agg #[.int .i64 rs,.bool false,.int .u32 0,.int .u32 0,.int .u32 0,.int .i64 0,.int .i64 0,.int .i64 0,.int .i64 0,.int .u32 0,.slice none 0 0,.slice none 0 0]) (by simp[results,results34,go_sem,hc]) rfl ?_
       exact⟨rfl,h5.s⟩
   clear acF
   cases there with
   |false=>
    clear hgo
    obtain⟨_,hd⟩:=hdef
    obtain⟨_,hth⟩:=hth
    rw[←hth]at hd
    have yD:((kr,(r1,r2,r3),rs):aB × (Int × Int × Int) × Int)=(if(3:Int)=0 then(k,(0,0,0),3) else(k.fail T 3 sv (if false&&decide (0<oC sv) then sa else 0),(0,0,0),3)):=by rw[hd];simp
    clear hd hth hg
    go_wp2_with fail
    exact Dx k 0 0 0 3 (fC m gZ Io UD) _ _ _ _ _ _ _ _ _ _ _ _ _ _ _ _ _ _ _ _ _ _ _ _ _ _ _ _ _ _ _ _ _ _ _ _ _ _ _ _ _ _ _ _ _ _ _ _ _ _ _ _ _ _ _ _ _ w8 yD (fun _=>her) h9
   |true=>
    have fZ:=(h9.ae p4).cells
    have jb:=(h9.ae p2).cells
    go_upto_region 12 with(fail)
    obtain⟨my,hmy⟩:∃my,tN sv (jG kd cat)=my:=⟨_,rfl⟩
    have aap:=fun w' (h:In w0 w' (eF G r T k::pts q wL::pts y (qo kd id st fv pa)::pts (z+1) Ir::pts z (uf sk si sv sa sb sc)::fC m gZ Io UD::l))=>abV h sv (jG kd cat)
    have hof:=fun w'=>acV w' kd cat
    rw[hmy]at aap hgo
    obtain⟨lv,hlv⟩:∃lv,jG kd cat=lv:=⟨_,rfl⟩
    rw[hlv]at aap hof hmy
    replace hmy:∃_:Unit,tN sv lv=my:=⟨(),hmy⟩
    replace hlv:∃_:Unit,jG kd cat=lv:=⟨(),hlv⟩
    have hS0:=(h9.drew).ps [4,2]
    refine nK hS0 ⟨[5],[6]⟩ [.c 0 0,.c 2 1,.c 0 2,.c 1 3,.c 0 4,.e 5,.e 6,.c 0 7,.c 0 8] ?_
    refine nD ?_;intro K hK
    go_wp2_with (go_at_call 84;refine bW (hof _) ?_)
    go_wp2_with fail
    refine df hK ((h9.drew).s) fun hS0=>?_
    refine bG rfl rfl fun K hK=>?_
    have hma:=aap _ h9.drew
    go_wp2_with (go_at_call 83;refine bF hma ?_;intro w9 h10)
    clear hma aap hof h9 fZ jb
    go_wp2_with fail
    refine wM ?_
    obtain⟨_,hd⟩:=hdef
    obtain⟨_,hth⟩:=hth
    obtain⟨_,hlv⟩:=hlv
    obtain⟨_,hmy⟩:=hmy
    obtain⟨_,hg⟩:=hg
    rw[←hth,hlv,hmy,←hg]at hd
    clear hth hlv hmy hg
    cases my with
    |false=>
     have yD:((kr,(r1,r2,r3),rs):aB × (Int × Int × Int) × Int)=(if(2:Int)=0 then(k,(0,0,0),2) else(k.fail T 2 sv (if true&&decide (0<oC sv) then sa else 0),(0,0,0),2)):=by rw[hd];simp
     clear hd hgo Yd
     go_wp2_with fail
     exact Dx k 0 0 0 2 (fC m gZ Io UD) _ _ _ _ _ _ _ _ _ _ _ _ _ _ _ _ _ _ _ _ _ _ _ _ _ _ _ _ _ _ _ _ _ _ _ _ _ _ _ _ _ _ _ _ _ _ _ _ _ _ _ _ _ _ _ _ _ w9 yD (fun _=>her) h10
    |true=>
     have hks:=QK (h10.ae p0)
     obtain⟨sh,hsh⟩:∃sh,k.shut=sh:=⟨_,rfl⟩
     rw[hsh]at hks hd
     clear hsh
     have hsg:sh=false∨sh=true∧g=true∨sh=true∧g=false:=by cases sh<;>cases g<;>simp
     rcases hsg with rfl|⟨rfl,rfl⟩|⟨rfl,rfl⟩
     ·go_upto_region 9 with(go_at_call 85;refine bW hks ?_)
      clear hks
      have yD:((kr,(r1,r2,r3),rs):aB × (Int × Int × Int) × Int)=(if es0=0 then(ks,(s1,s2,s3),es0) else(ks.fail T es0 sv (if true&&decide (0<oC sv) then sa else 0),(0,0,0),es0)):=by rw[hd];simp
      clear hd her
      obtain⟨fn,rfl,hcf,hfn⟩:=hgo (by trivial) (by trivial)
      have hcall:=hfn _ _ h10
      unfold qH kz at hcall
      simp only at hcall
      clear hgo hfn
      have fZ:=(h10.ae p4).cells
      have jb:=(h10.ae p2).cells
      go_wp2_with (refine bF hcall ?_;intro w11 h11;have RU:=(h11.ae p1).cells;have Ym:=(h11.ae p1).free)
      have h12:=(h11.ae p1).fill [.int .u32 s1,.int .u32 s2,.int .u32 s3] rfl
      simp only[dm]at h12
      exact Dx ks s1 s2 s3 es0 (fC m gZ Io UD) _ _ _ _ _ _ _ _ _ _ _ _ _ _ _ _ _ _ _ _ _ _ _ _ _ _ _ _ _ _ _ _ _ _ _ _ _ _ _ _ _ _ _ _ _ _ _ _ _ _ _ _ _ _ _ _ _ _ yD Yd (h12.s)
     ·go_upto_region 9 with(go_at_call 85;refine bW hks ?_)
      clear hks
      have yD:((kr,(r1,r2,r3),rs):aB × (Int × Int × Int) × Int)=(if es0=0 then(ks,(s1,s2,s3),es0) else(ks.fail T es0 sv (if true&&decide (0<oC sv) then sa else 0),(0,0,0),es0)):=by rw[hd];simp
      clear hd her
      obtain⟨fn,rfl,hcf,hfn⟩:=hgo (by trivial) (by trivial)
      have hcall:=hfn _ _ h10
      unfold qH kz at hcall
      simp only at hcall
      clear hgo hfn
      have fZ:=(h10.ae p4).cells
      have jb:=(h10.ae p2).cells
      go_wp2_with (refine bF hcall ?_;intro w11 h11;have RU:=(h11.ae p1).cells;have Ym:=(h11.ae p1).free)
      have h12:=(h11.ae p1).fill [.int .u32 s1,.int .u32 s2,.int .u32 s3] rfl
      simp only[dm]at h12
      exact Dx ks s1 s2 s3 es0 (fC m gZ Io UD) _ _ _ _ _ _ _ _ _ _ _ _ _ _ _ _ _ _ _ _ _ _ _ _ _ _ _ _ _ _ _ _ _ _ _ _ _ _ _ _ _ _ _ _ _ _ _ _ _ _ _ _ _ _ _ _ _ _ yD Yd (h12.s)
     ·have yD:((kr,(r1,r2,r3),rs):aB × (Int × Int × Int) × Int)=(if(10:Int)=0 then(k,(0,0,0),10) else(k.fail T 10 sv (if true&&decide (0<oC sv) then sa else 0),(0,0,0),10)):=by rw[hd];simp
      clear hd hgo Yd
      go_wp2_with (go_at_call 85;refine bW hks ?_)
      exact Dx k 0 0 0 10 (fC m gZ Io UD) _ _ _ _ _ _ _ _ _ _ _ _ _ _ _ _ _ _ _ _ _ _ _ _ _ _ _ _ _ _ _ _ _ _ _ _ _ _ _ _ _ _ _ _ _ _ _ _ _ _ _ _ _ _ _ _ _ w9 yD (fun _=>her) h10
  clear hK6
  have hc3:sv<10∨(10≤sv∧sv≤15)∨15<sv:=by omega
  rcases hc3 with hc3|hc3|hc3
  ·have hd10:decide (10≤sv)=false:=decide_eq_false (by omega)
   go_wp2_with fail
   exact QB false _ _ _ _ _ _ _ _ w5 (by rw[hd10];rfl) h5
  ·obtain⟨hc4,hc5⟩:=hc3
   have hd10:decide (10≤sv)=true:=decide_eq_true hc4
   have acG:decide (sv≤15)=true:=decide_eq_true hc5
   go_wp2_with fail
   exact QB true _ _ _ _ _ _ _ _ w5 (by rw[hd10,acG];rfl) h5
  ·have hd10:decide (10≤sv)=true:=decide_eq_true (by omega)
   have acG:decide (sv≤15)=false:=decide_eq_false (by omega)
   go_wp2_with fail
   exact QB false _ _ _ _ _ _ _ _ w5 (by rw[hd10,acG];rfl) h5
 clear hK5
 replace h4:In w0 w4 (eF G r T k::pts y (qo kd id st fv pa)::pts (z+1) Ir::pts z (uf sk si sv sa sb sc)::l):=h4.s
 by_cases hkd:kd=2
 ·subst hkd
  obtain⟨n,xr,rfl,hn⟩:=RS rfl
  have aaq:xr.category=ct:=by rw[Lp,if_pos rfl,Int.toNat_natCast,hn]
  clear Lp RS
  obtain⟨B,x,a,h5⟩:=dD h4
  obtain⟨il,t1,t2,t3⟩:=a.tab.bf
  have hil:il.length=T.bf.length:=by rw[←t1,List.length_map]
  obtain⟨px,hpx,hp1⟩:∃px,il[n]? =some px∧px.1=xr:=by
   rw[←t1,List.getElem?_map]at hn
   cases hp:il[n]? with
   |none=>rw[hp]at hn;cases hn
   |some px=>rw[hp]at hn;exact⟨px,rfl,Option.some.inj hn⟩
  have n1:(n:Int)<T.bf.length:=by have:=(List.getElem?_eq_some_iff.1 hn).1;omega
  rw[←hil]at t2
  obtain⟨g0,o0,cap0,e0,hcl0⟩:=iw (slot:=iy) (size:=3) (fun _=>rfl) t2 hpx
  rw[hil]at e0
  rcases x with⟨vt,vr,vs,vc,va,vi,vm,pc,pb,pf,pe,pq,vk,vb,vx⟩
  simp only at e0 h5
  subst e0
  have hd0:=hcl0 (h5.ae p1) 0 _ rfl (by decide)
  rw[Nat.add_zero,hp1,aaq]at hd0
  clear hcl0 hp1 aaq hpx t1 t2 t3 hil hn a
  have bC:=h5.cells
  have Dw:=(h4.ae p1).cells
  go_upto_region 4 with(fail)
  refine rg ⟨[], []⟩ [.c 0 0,.c 0 1,.c 0 2,.c 0 3,.c 1 4,.c 0 5,.c 1 6,.c 0 7,.c 0 8,.c 1 9,.c 0 10] ?_
  refine lK ?_
  exact Ye ct _ _ _ _ _ _ _ _ _ _ _ _ _ _ rfl h4.drew
 ·have hkb:(kd==2)=false:=by simpa using hkd
  have aaq:ct=0:=by rw[Lp,if_neg hkd]
  clear Lp RS
  subst aaq
  have Dw:=(h4.ae p1).cells
  go_wp2_with fail
  exact Ye 0 _ _ _ _ _ _ _ _ _ _ _ _ _ w4 rfl h4
end
end Go.Proofs.YtajgpcnlehinbaaGreat
