/- Buckets of durations, and the document's: the walks. -/
import Derived.Test.YtdpngmgaomghoaaGreatSats
namespace Go.Proofs.YtdpngmgaomghoaaGreat
open Tryz
set_option maxRecDepth 100000
open Go.RowKit
namespace Bucket
open HistP
abbrev bv (b:Int × Int × Bool):Value:=.tuple #[.int .i64 b.1,.int .i64 b.2.1,.bool b.2.2]
theorem ret_bv {a b a' b':Int} {c c':Bool} (h1:a=a') (h2:b=b') (h3:c=c'):Ending.returned (.tuple #[.int .i64 a,.int .i64 b,.bool c])=.returned (bv (a',b',c')):=by rw [h1,h2,h3]
theorem div_pow {x:Int} (hx:0≤x) (k:Nat):x / 2 ^ k=((x.toNat / 2 ^ k:Nat):Int):=by
 obtain ⟨n,rfl⟩:=Int.eq_ofNat_of_zero_le hx
 simp
theorem Of (d:Int) (w:World):Calls prog 220 #[.int .i64 d] w fun e w'=>e=.returned (.int .i64 (bk d))∧w=w':=by
 have HC:=Lib.hid (Sat.Clamp d 0 4611686018427387904 w)
 have HX:Hid (clamp d 0 4611686018427387904=cl d):=rfl
 rw [HX.out] at HC
 have hc:=cl_rng d
 have HE:Hid (bk d=(HistP.bits (cl d).toNat:Nat)):=rfl
 have hb:=bk_rng d
 rw [HE.out] at hb
 generalize bk d=b at *
 generalize cl d=x at *
 have hp:=fun k:Nat=>div_pow hc.1 k
 have HP:=Lib.hid hp
 clear hp HX
 go_enter func220,ntmps220
 go_wp2_with fail
 go_step3
 go_wp2_with fail
 refine HC.out.mono ?_
 rintro e w1 ⟨rfl,rfl⟩
 go_wp2_with fail
 go_step3
 go_wp2_with fail
 go_loopg [3] 64 (fun gk i wr=>∃k:Nat,i=.int .i64 k∧k≤HistP.bits x.toNat∧gk=64-k∧w=wr)
 case atStart=>exact ⟨0,rfl,Nat.zero_le _,rfl,rfl⟩
 case round=>
  obtain ⟨k,rfl,hk,hg,rfl⟩:=hrel
  have HG:=Lib.hid hg
  clear hg
  have h64:(k:Int)≤64:=by omega
  have hpk:=HP.out k
  have HK:=Lib.hid hpk
  clear hpk
  by_cases hlt:k<HistP.bits x.toNat
  ·have hge:2 ^ k≤x.toNat:=by
    have hn:x.toNat≠0:=fun e=>by rw [bits_zero.2 e] at hlt;omega
    exact Nat.le_trans (Nat.pow_le_pow_right (by decide) (by omega)) (bits_le hn)
   have t1:(x / 2 ^ k==0)=false:=by
    rw [beq_eq_false_iff_ne,HK.out]
    have:0<x.toNat / 2 ^ k:=Nat.div_pos hge (Nat.two_pow_pos k)
    omega
   clear hge
   go_wp2_with fail
   go_roundg (64-(k+1))
   case rel=>exact ⟨k+1,by go_num,by omega,rfl,rfl⟩
   case measure=>have:=HG.out;omega
  ·obtain rfl:k=HistP.bits x.toNat:=by omega
   have t1:(x / 2 ^ HistP.bits x.toNat==0)=true:=by
    rw [beq_iff_eq,HK.out,Nat.div_eq_of_lt (bits_lt _)];rfl
   go_wp2_with fail
   (try rw [Exit.noGoto_ret])
   go_ret
   exact ⟨by rw [HE.out];rfl,rfl⟩
theorem Bounds (k:Int) (w:World):Calls prog 173 #[.int .i64 k] w fun e w'=>e=.returned (bv (bnd k))∧w=w':=by
 by_cases h0:k<0
 ·have HE:Hid (bnd k=(0,0,false)):=if_pos (.inl h0)
  go_enter func173,ntmps173
  go_wp2
  go_ret3
  exact ⟨by rw [HE.out];rfl,rfl⟩
 ·by_cases h1:63<k
  ·have HE:Hid (bnd k=(0,0,false)):=if_pos (.inr h1)
   go_enter func173,ntmps173
   go_wp2
   go_ret3
   exact ⟨by rw [HE.out];rfl,rfl⟩
  ·by_cases h2:k=0
   ·subst h2
    go_enter func173,ntmps173
    go_wp2
    go_ret3
    exact ⟨rfl,rfl⟩
   ·have k1:(k==0)=false:=by simpa using h2
    have HE:Hid (bnd k=if k=63 then (4611686018427387904,4611686018427387904,true) else (2 ^ (k.toNat-1),2 ^ k.toNat-1,true)):=by
     show _=_;unfold bnd;rw [if_neg (by omega),if_neg h2,show (k-1).toNat=k.toNat-1 by omega]
    obtain ⟨hp1,hp2⟩:=pow62 (n:=k.toNat-1) (by omega)
    have HP2:Hid ((2:Int) ^ k.toNat=2*2 ^ (k.toNat-1)):=by
     show _=_
     have:k.toNat=(k.toNat-1)+1:=by omega
     conv=>lhs;rw [this,Int.pow_succ]
     omega
    have H63:Hid (k=63→(2:Int) ^ (k.toNat-1)=4611686018427387904):=by rintro rfl;rfl
    have H62:Hid (k≠63→(2:Int) ^ (k.toNat-1)≤2305843009213693952):=fun h=>by
     have h1:2 ^ (k.toNat-1)≤2 ^ 61:=Nat.pow_le_pow_right (by decide) (by omega)
     have e:((2 ^ (k.toNat-1):Nat):Int)=2 ^ (k.toNat-1):=by simp
     have e2:(2:Nat) ^ 61=2305843009213693952:=by decide
     rw [←e];omega
    clear h2
    go_enter func173,ntmps173
    go_wp2
    all_goals
     go_ret3
     refine ⟨?_,rfl⟩
     rw [HE.out]
     by_cases h63:k=63
     ·have e:=H63.out h63
      rw [if_pos h63]
      first| (exfalso;omega)|exact ret_bv e rfl rfl|exact ret_bv e (by omega) rfl
     ·have e:=H62.out h63
      rw [if_neg h63]
      first| (exfalso;omega)|exact ret_bv rfl (by rw [HP2.out];omega) rfl
end Bucket
end Go.Proofs.YtdpngmgaomghoaaGreat
