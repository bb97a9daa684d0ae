/- Part of a proof. -/
import Derived.Lib.Strings
import Derived.Lib.Slices
import Derived.Lib.Small
import Derived.Lib.Walk
import Derived.Lib.BitFns
import Derived.Test.YtajgpcnlehinbaaGreatProg
import Derived.Test.YtajgpcnlehinbaaGreatA05
namespace Go.Proofs.YtajgpcnlehinbaaGreat
open Tryz Go.RowKit
set_option maxRecDepth 100000
set_option maxHeartbeats 60000000
set_option linter.all false
theorem LQ (n:Nat) (h:n<256):Lib.bitLen n≤8:=Lib.bitLen_le8 ⟨n,h⟩
theorem NJ (n:Nat) (h:n<256) {h':n<Lib.len8tab.size}:((Lib.len8tab[n]'(h')).toNat:Int)=(Lib.bitLen n:Int):=by
 have e:=Lib.len8_eq ⟨n,h⟩
 simp only[Lib.len8,Int.toNat_natCast]at e
 have e2:Lib.len8tab[n]? =some (Lib.len8tab[n]'(h')):=getElem?_pos Lib.len8tab n h'
 rw[e2]at e
 exact e
theorem wrap_small {a:Int} {b:Nat} (h0:0≤a) (ha:a≤56) (hb:b≤8):wrap64 (a+wrap64 (b:Int))=a+(b:Int):=by unfold wrap64;omega
theorem NU {b:Nat} (hb:b≤8):wrap64 (wrap64 (b:Int))=(b:Int):=by unfold wrap64;omega
theorem ac0 (x:Int) (w:World) (h0:0≤x) (h1:x≤18446744073709551615):
 Calls prog 406 #[.int .u64 x] w fun e w'=>e= .returned (.int .i64 (Lib.bitLen x.toNat))∧w'=w:=by
 go_enter func406,ntmps406
 have hsz:Lib.len8tab.size=256:=Lib.len8tab_size
 go_wp2
 all_goals(go_ret;refine⟨congrArg Ending.returned (congrArg (Value.int IntKind.i64) ?_),rfl⟩)
 all_goals first
  |(simp only[NJ (x/4294967296/65536/256).toNat (by omega)]
    have e:(x/4294967296/65536/256).toNat=x.toNat/72057594037927936:=by omega
    have l:=LQ (x.toNat/72057594037927936) (by omega)
    have s:=Lib.bitLen_shift56 x.toNat (by omega) (by omega)
    rw[e,s,wrap_small (by decide) (by decide) l,Int.natCast_add]
    rfl)
  |(simp only[NJ (x/4294967296/65536).toNat (by omega)]
    have e:(x/4294967296/65536).toNat=x.toNat/281474976710656:=by omega
    have l:=LQ (x.toNat/281474976710656) (by omega)
    have s:=Lib.bitLen_shift48 x.toNat (by omega) (by omega)
    rw[e,s,wrap_small (by decide) (by decide) l,Int.natCast_add]
    rfl)
  |(simp only[NJ (x/4294967296/256).toNat (by omega)]
    have e:(x/4294967296/256).toNat=x.toNat/1099511627776:=by omega
    have l:=LQ (x.toNat/1099511627776) (by omega)
    have s:=Lib.bitLen_shift40 x.toNat (by omega) (by omega)
    rw[e,s,wrap_small (by decide) (by decide) l,Int.natCast_add]
    rfl)
  |(simp only[NJ (x/4294967296).toNat (by omega)]
    have e:(x/4294967296).toNat=x.toNat/4294967296:=by omega
    have l:=LQ (x.toNat/4294967296) (by omega)
    have s:=Lib.bitLen_shift32 x.toNat (by omega) (by omega)
    rw[e,s,wrap_small (by decide) (by decide) l,Int.natCast_add]
    rfl)
  |(simp only[NJ (x/65536/256).toNat (by omega)]
    have e:(x/65536/256).toNat=x.toNat/16777216:=by omega
    have l:=LQ (x.toNat/16777216) (by omega)
    have s:=Lib.bitLen_shift24 x.toNat (by omega) (by omega)
    rw[e,s,wrap_small (by decide) (by decide) l,Int.natCast_add]
    rfl)
  |(simp only[NJ (x/65536).toNat (by omega)]
    have e:(x/65536).toNat=x.toNat/65536:=by omega
    have l:=LQ (x.toNat/65536) (by omega)
    have s:=Lib.bitLen_shift16 x.toNat (by omega) (by omega)
    rw[e,s,wrap_small (by decide) (by decide) l,Int.natCast_add]
    rfl)
  |(simp only[NJ (x/256).toNat (by omega)]
    have e:(x/256).toNat=x.toNat/256:=by omega
    have l:=LQ (x.toNat/256) (by omega)
    have s:=Lib.bitLen_shift8 x.toNat (by omega) (by omega)
    rw[e,s,wrap_small (by decide) (by decide) l,Int.natCast_add]
    rfl)
  |(simp only[NJ x.toNat (by omega)]
    have l:=LQ x.toNat (by omega)
    exact NU l)
theorem Nr (x:Nat) (h:x<2 ^ 64) (h0:x≠0):Lib.bitLen x=x.log2+1:=by
 induction x using Nat.strongRecOn with
 |_ x ih=>
  rw[Lib.bitLen_half x h0 h]
  by_cases h2:2≤x
  ·rw[ih (x/2) (by omega) (by omega) (by omega),Nat.log2_def x,if_pos h2];omega
  ·obtain rfl:x=1:=by omega
   simp[Lib.bitLen,Lib.bitLenAux,Nat.log2_def]
theorem PK (x:Nat) (w:World) (h0:x≠0) (h1:x<2 ^ 64):
 Calls prog 406 #[.int .u64 x] w fun e w'=>e= .returned (.int .i64 ((x.log2:Int)+1))∧w'=w:=by
 have h:=ac0 (x:Int) w (by omega) (by omega)
 rw[Int.toNat_natCast,Nr x h1 h0]at h
 exact h
end Go.Proofs.YtajgpcnlehinbaaGreat
