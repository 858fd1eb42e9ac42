/- The document's buckets: the walks. -/
import Derived.Test.YtdpngmgaomghoaaGreatBucket
import Derived.Test.YtdpngmgaomghoaaGreatWides
namespace Go.Proofs.YtdpngmgaomghoaaGreat
open Tryz
set_option maxRecDepth 100000
open Go.RowKit
namespace Ref24
open HistP Bucket
theorem Bounds (k:Int) (w:World):Calls prog 102 #[.int .i64 k] w fun e w'=>e=.returned (bv (bnd k))∧Fr (fun _=>False) w w':=by
 by_cases h0:k<0
 ·have HE:Hid (bnd k=(0,0,false)):=if_pos (.inl h0)
  go_enter func102,ntmps102
  go_wp2
  go_ret3
  exact ⟨by rw [HE.out];rfl,Fr.refl _ _⟩
 ·by_cases h1:63<k
  ·have HE:Hid (bnd k=(0,0,false)):=if_pos (.inr h1)
   go_enter func102,ntmps102
   go_wp2
   go_ret3
   exact ⟨by rw [HE.out];rfl,Fr.refl _ _⟩
  ·by_cases h2:k=0
   ·subst h2
    go_enter func102,ntmps102
    go_wp2
    go_ret3
    exact ⟨rfl,Fr.refl _ _⟩
   ·have k1:(k==0)=false:=by simpa using h2
    by_cases h3:k=63
    ·subst h3
     clear h2 k1
     go_enter func102,ntmps102
     go_wp2
     go_ret3
     exact ⟨rfl,Fr.refl _ _⟩
    ·have k2:(k==63)=false:=by simpa using h3
     have HE:Hid (bnd k=(2 ^ (k.toNat-1),2 ^ k.toNat-1,true)):=by
      show _=_;unfold bnd;rw [if_neg (by omega),if_neg h2,if_neg h3,show (k-1).toNat=k.toNat-1 by omega]
     obtain ⟨hp1,hp2⟩:=pow62 (n:=k.toNat-1) (by omega)
     obtain ⟨hp3,hp4⟩:=pow62 (n:=k.toNat) (by omega)
     clear h2 h3
     go_enter func102,ntmps102
     go_upto_region 7 with (fail)
     go_quiet (fail)
     go_wp2_with fail
     go_ret3
     exact ⟨by rw [HE.out];rfl,Fr.drewN _ _ _⟩
theorem bk_least (d:Int) {k:Nat} (h:(bnd k).1≤cl d) (h2:cl d≤(bnd k).2.1) (h3:k≤63):bk d=k:=by
 have hc:=cl_rng d
 unfold bnd at h h2
 rw [if_neg (by omega)] at h h2
 unfold bk
 congr 1
 by_cases h0:(k:Int)=0
 ·rw [if_pos h0] at h h2
  dsimp only at h h2
  obtain rfl:k=0:=by omega
  rw [show (cl d).toNat=0 by omega];rfl
 ·rw [if_neg h0] at h h2
  by_cases h63:(k:Int)=63
  ·rw [if_pos h63] at h h2
   dsimp only at h h2
   obtain rfl:k=63:=by omega
   rw [show (cl d).toNat=4611686018427387904 by omega]
   exact bits_eq (by decide) (.inr (by decide))
  ·rw [if_neg h63] at h h2
   dsimp only at h h2
   have e1:((2 ^ ((k:Int)-1).toNat:Nat):Int)=2 ^ ((k:Int)-1).toNat:=by simp
   have e2:((2 ^ (k:Int).toNat:Nat):Int)=2 ^ (k:Int).toNat:=by simp
   rw [←e1] at h
   rw [←e2] at h2
   rw [show ((k:Int)-1).toNat=k-1 by omega] at h
   rw [Int.toNat_natCast] at h2
   exact bits_eq (by omega) (.inr (by omega))
theorem Of (d:Int) (w:World):Calls prog 158 #[.int .i64 d] w fun e w'=>e=.returned (.int .i64 (bk d))∧Fr (fun _=>False) w w':=by
 have HC:=Lib.hid (Ref03.Clamp d 0 4611686018427387904 w)
 have HX:Hid (clamp d 0 4611686018427387904=cl d):=rfl
 rw [HX.out] at HC
 have HL:=Lib.hid (fun (k:Nat)=>bk_least d (k:=k))
 have HB:=Lib.hid (bk_bnd d)
 have hb:=bk_rng d
 generalize bk d=b at *
 generalize cl d=x at *
 clear HX
 go_enter func158,ntmps158
 go_wp2_with fail
 refine HC.out.mono ?_
 rintro e w1 ⟨rfl,rfl⟩
 clear HC
 go_wp2_with fail
 go_loopg [3,4,5,6] 64 (fun gk i _ _ _ wr=>∃k:Nat,i=.int .i64 k∧(k:Int)≤b∧gk=64-k∧Fr (fun _=>False) w wr)
 case atStart=>exact ⟨0,rfl,by simp;omega,rfl,Fr.refl _ _⟩
 case round=>
  obtain ⟨k,rfl,hk,hg,hfr⟩:=hrel
  have HG:=Lib.hid hg;have HF:=Lib.hid hfr
  clear hg hfr
  have hk63:(k:Int)<64:=by omega
  have HBo:=Lib.hid (Bounds k wr)
  have hl:=HL.out k
  by_cases hlt:(k:Int)<b
  ·have hno:¬ ((bnd k).1≤x∧x≤(bnd k).2.1):=fun h=>by have:=hl h.1 h.2 (by omega);omega
   clear hl
   generalize bnd k=B at *
   obtain ⟨lo,hi,ok⟩:=B
   dsimp only at hno
   by_cases h1:lo≤x
   ·have h2:¬x≤hi:=fun h=>hno ⟨h1,h⟩
    clear hno
    go_wp2_with fail
    refine HBo.out.mono ?_
    rintro e w1 ⟨rfl,hf⟩
    have HF2:=Lib.hid (HF.out.to hf)
    clear hf
    go_wp2_with fail
    go_roundg (64-(k+1))
    case rel=>exact ⟨k+1,by go_num,by omega,rfl,HF2.out⟩
    case measure=>have:=HG.out;omega
   ·clear hno
    go_wp2_with fail
    refine HBo.out.mono ?_
    rintro e w1 ⟨rfl,hf⟩
    have HF2:=Lib.hid (HF.out.to hf)
    clear hf
    go_wp2_with fail
    go_roundg (64-(k+1))
    case rel=>exact ⟨k+1,by go_num,by omega,rfl,HF2.out⟩
    case measure=>have:=HG.out;omega
  ·obtain rfl:b=(k:Int):=by omega
   obtain ⟨h1,h2,-⟩:=HB.out
   clear hl HB HL
   generalize bnd k=B at *
   obtain ⟨lo,hi,ok⟩:=B
   dsimp only at h1 h2
   go_wp2_with fail
   refine HBo.out.mono ?_
   rintro e w1 ⟨rfl,hf⟩
   have HF2:=Lib.hid (HF.out.to hf)
   clear hf
   go_wp2_with fail
   go_ret
   exact ⟨rfl,HF2.out⟩
end Ref24
end Go.Proofs.YtdpngmgaomghoaaGreat
