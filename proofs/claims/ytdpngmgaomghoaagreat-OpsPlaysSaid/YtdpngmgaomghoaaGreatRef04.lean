/- The document's sums: the walks. -/
import Derived.Test.YtdpngmgaomghoaaGreatWides
namespace Go.Proofs.YtdpngmgaomghoaaGreat
open Tryz
set_option maxRecDepth 100000
set_option maxHeartbeats 400000
open Go.RowKit
namespace Ref04
open HistP Wide
attribute [local go_sem] Eng.ev Eng.getO_cons Eng.getO_nil
theorem ret_sv {a b c d:Int} (h1:a=c) (h2:b=d):Ending.returned (.agg #[.int .i64 a,.int .i64 b])=.returned (sv (c,d)):=by rw [h1,h2]
theorem May (s:Int × Int) (hs:HistP.May s) (w:World):Calls prog 269 #[sv s] w fun e w'=>e=.returned (.bool true)∧Fr (fun _=>False) w w':=by
 obtain ⟨h,l⟩:=s
 obtain ⟨h0,h1,h2,h3⟩:=hs
 dsimp only at *
 go_enter func269,ntmps269
 go_wp2
 go_ret
 exact ⟨rfl,Fr.alloc _ _ _⟩
theorem right (s:Int × Int) (hs:HistP.May s) (w:World):Calls prog 222 #[sv s] w (PostS s w):=by
 have HM:=fun w=>Lib.hid (May s hs w)
 obtain ⟨h,l⟩:=s
 clear hs
 go_enter func222,ntmps222
 go_wp2_with fail
 refine (HM _).out.mono ?_
 rintro e w1 ⟨rfl,hf⟩
 have H1:=Lib.hid (W2.start (a:=(h,l)) (b:=(0,0)) hf)
 obtain ⟨c0,c1,-,-⟩:=Bk.cells H1.out.b1
 obtain ⟨d0,d1,g0,g1⟩:=Bk.cells H1.out.b2
 dsimp only at c0 c1 d0 d1
 clear hf HM
 go_wp2_with fail
 exact bodyPost_ret (results_cell_row rfl _ _ (w.heap.size+1) TS _ (0,0) _ rfl ((H1.out.b2.set 0 _).set 1 _) underlying63 rfl (by kernel_rfl)) rfl ⟨rfl,(H1.out.fr.set_new (by simp) _).set_new (by simp) _⟩
theorem Add (s:Int × Int) (d:Int) (hs:HistP.May s) (w:World):Calls prog 164 #[sv s,.int .i64 d] w (PostS (addS s d) w):=by
 have HR:=fun w=>Lib.hid (right s hs w)
 obtain ⟨h,l⟩:=s
 obtain ⟨h0,h1,h2,h3⟩:=hs
 dsimp only at h0 h1 h2 h3
 have hc:=cl_rng d
 have HCl:=Lib.hid (fun w=>Ref03.Clamp d 0 4611686018427387904 w)
 have HX:Hid (clamp d 0 4611686018427387904=cl d):=rfl
 rw [HX.out] at HCl
 have HE:Hid (addS (h,l) d=if 4294967296<h+(l+cl d) / 4611686018427387904 then (4294967296,4611686018427387903) else (h+(l+cl d) / 4611686018427387904,(l+cl d) % 4611686018427387904)):=rfl
 generalize cl d=x at *
 clear HX
 go_enter func164,ntmps164
 go_wp2_with fail
 refine (HR _).out.mono ?_
 rintro e w1 ⟨rfl,hf⟩
 have H1:=Lib.hid (W2.start (a:=(h,l)) (b:=(0,0)) hf)
 obtain ⟨c0,c1,f0,f1⟩:=Bk.cells H1.out.b1
 dsimp only at c0 c1
 clear hf HR
 go_wp2_with fail
 refine (HCl.out _).mono ?_
 rintro e w2 ⟨rfl,rfl⟩
 clear c0 c1 f0 f1
 have H2:=Lib.hid (H1.out.set1 (h,l))
 dsimp only at H2
 clear H1
 generalize (w1.setCell ⟨w.heap.size,0,none⟩ (.int .i64 h)).setCell ⟨w.heap.size,1,none⟩ (.int .i64 l)=w2 at *
 obtain ⟨c0,c1,f0,f1⟩:=Bk.cells H2.out.b1
 obtain ⟨d0,d1,g0,g1⟩:=Bk.cells H2.out.b2
 dsimp only at c0 c1 d0 d1
 by_cases hx:x=4611686018427387904
 ·have k1:(x==4611686018427387904)=true:=by simp [hx]
  have HX:=Lib.hid hx
  have hx1:4611686018427387904≤x:=by omega
  clear hx
  by_cases hk:4294967296<h+1
  all_goals
   go_wp2_with fail
   exact bodyPost_ret (results_cell_row rfl _ _ (w.heap.size+1) TS _ (0,0) _ rfl (by refine Bk.set (Bk.set (c:= #[.int .i64 0,.int .i64 0]) ?_ 0 _) 1 _;(repeat (refine Bk.other ?_ (by simp) _));exact H2.out.b2) underlying63 rfl (by kernel_rfl)) rfl ⟨by rw [HE.out];(try rw [if_pos (by omega)]);(try rw [if_neg (by omega)]);first|rfl|exact ret_sv (by omega) (by omega),by (repeat (refine Fr.set_new ?_ (by simp) _));exact H2.out.fr⟩
 ·have k1:(x==4611686018427387904)=false:=by simp [hx]
  have hx1:x<4611686018427387904:=by omega
  clear hx
  by_cases hl:4611686018427387904-x≤l
  ·by_cases hk:4294967296<h+1
   all_goals
    go_wp2_with fail
    exact bodyPost_ret (results_cell_row rfl _ _ (w.heap.size+1) TS _ (0,0) _ rfl (by refine Bk.set (Bk.set (c:= #[.int .i64 0,.int .i64 0]) ?_ 0 _) 1 _;(repeat (refine Bk.other ?_ (by simp) _));exact H2.out.b2) underlying63 rfl (by kernel_rfl)) rfl ⟨by rw [HE.out];(try rw [if_pos (by omega)]);(try rw [if_neg (by omega)]);first|rfl|exact ret_sv (by omega) (by omega),by (repeat (refine Fr.set_new ?_ (by simp) _));exact H2.out.fr⟩
  ·go_wp2_with fail
   exact bodyPost_ret (results_cell_row rfl _ _ (w.heap.size+1) TS _ (0,0) _ rfl (by refine Bk.set (Bk.set (c:= #[.int .i64 0,.int .i64 0]) ?_ 0 _) 1 _;(repeat (refine Bk.other ?_ (by simp) _));exact H2.out.b2) underlying63 rfl (by kernel_rfl)) rfl ⟨by rw [HE.out];(try rw [if_pos (by omega)]);(try rw [if_neg (by omega)]);first|rfl|exact ret_sv (by omega) (by omega),by (repeat (refine Fr.set_new ?_ (by simp) _));exact H2.out.fr⟩
theorem Sub (s:Int × Int) (d:Int) (hs:HistP.May s) (w:World):Calls prog 162 #[sv s,.int .i64 d] w (PostS (subS s d) w):=by
 have HR:=fun w=>Lib.hid (right s hs w)
 obtain ⟨h,l⟩:=s
 obtain ⟨h0,h1,h2,h3⟩:=hs
 dsimp only at h0 h1 h2 h3
 have hc:=cl_rng d
 have HCl:=Lib.hid (fun w=>Ref03.Clamp d 0 4611686018427387904 w)
 have HX:Hid (clamp d 0 4611686018427387904=cl d):=rfl
 rw [HX.out] at HCl
 have HE:Hid (subS (h,l) d=if l-cl d<0 then (if h-1<0 then (0,0) else (h-1,l-cl d+4611686018427387904)) else (h,l-cl d)):=rfl
 generalize cl d=x at *
 clear HX
 go_enter func162,ntmps162
 go_wp2_with fail
 refine (HR _).out.mono ?_
 rintro e w1 ⟨rfl,hf⟩
 have H1:=Lib.hid (W2.start (a:=(h,l)) (b:=(0,0)) hf)
 obtain ⟨c0,c1,f0,f1⟩:=Bk.cells H1.out.b1
 dsimp only at c0 c1
 clear hf HR
 go_wp2_with fail
 refine (HCl.out _).mono ?_
 rintro e w2 ⟨rfl,rfl⟩
 clear c0 c1 f0 f1
 have H2:=Lib.hid (H1.out.set1 (h,l))
 dsimp only at H2
 clear H1
 generalize (w1.setCell ⟨w.heap.size,0,none⟩ (.int .i64 h)).setCell ⟨w.heap.size,1,none⟩ (.int .i64 l)=w2 at *
 obtain ⟨c0,c1,f0,f1⟩:=Bk.cells H2.out.b1
 obtain ⟨d0,d1,g0,g1⟩:=Bk.cells H2.out.b2
 dsimp only at c0 c1 d0 d1
 by_cases hx:x=4611686018427387904
 ·have k1:(x==4611686018427387904)=true:=by simp [hx]
  have HX:=Lib.hid hx
  have hx1:4611686018427387904≤x:=by omega
  clear hx
  by_cases hk:h-1<0
  all_goals
   go_wp2_with fail
   exact bodyPost_ret (results_cell_row rfl _ _ (w.heap.size+1) TS _ (0,0) _ rfl (by refine Bk.set (Bk.set (c:= #[.int .i64 0,.int .i64 0]) ?_ 0 _) 1 _;(repeat (refine Bk.other ?_ (by simp) _));exact H2.out.b2) underlying63 rfl (by kernel_rfl)) rfl ⟨by rw [HE.out];(try rw [if_pos (by omega)]);(try rw [if_neg (by omega)]);(try rw [if_pos (by omega)]);(try rw [if_neg (by omega)]);first|rfl|exact ret_sv (by omega) (by omega),by (repeat (refine Fr.set_new ?_ (by simp) _));exact H2.out.fr⟩
 ·have k1:(x==4611686018427387904)=false:=by simp [hx]
  have hx1:x<4611686018427387904:=by omega
  clear hx
  by_cases hl:l<x
  ·by_cases hk:h-1<0
   all_goals
    go_wp2_with fail
    exact bodyPost_ret (results_cell_row rfl _ _ (w.heap.size+1) TS _ (0,0) _ rfl (by refine Bk.set (Bk.set (c:= #[.int .i64 0,.int .i64 0]) ?_ 0 _) 1 _;(repeat (refine Bk.other ?_ (by simp) _));exact H2.out.b2) underlying63 rfl (by kernel_rfl)) rfl ⟨by rw [HE.out];(try rw [if_pos (by omega)]);(try rw [if_neg (by omega)]);(try rw [if_pos (by omega)]);(try rw [if_neg (by omega)]);first|rfl|exact ret_sv (by omega) (by omega),by (repeat (refine Fr.set_new ?_ (by simp) _));exact H2.out.fr⟩
  ·go_wp2_with fail
   exact bodyPost_ret (results_cell_row rfl _ _ (w.heap.size+1) TS _ (0,0) _ rfl (by refine Bk.set (Bk.set (c:= #[.int .i64 0,.int .i64 0]) ?_ 0 _) 1 _;(repeat (refine Bk.other ?_ (by simp) _));exact H2.out.b2) underlying63 rfl (by kernel_rfl)) rfl ⟨by rw [HE.out];(try rw [if_pos (by omega)]);(try rw [if_neg (by omega)]);(try rw [if_pos (by omega)]);(try rw [if_neg (by omega)]);first|rfl|exact ret_sv (by omega) (by omega),by (repeat (refine Fr.set_new ?_ (by simp) _));exact H2.out.fr⟩
theorem Less (a b:Int × Int) (ha:HistP.May a) (hb:HistP.May b) (w:World):Calls prog 159 #[sv a,sv b] w fun e w'=>e=.returned (.bool (lessS a b))∧Fr (fun _=>False) w w':=by
 have HRa:=fun w=>Lib.hid (right a ha w)
 have HRb:=fun w=>Lib.hid (right b hb w)
 obtain ⟨h,l⟩:=a
 obtain ⟨u,v⟩:=b
 have HE:Hid (lessS (h,l) (u,v)=decide (h<u∨h=u∧l<v)):=rfl
 clear ha hb
 go_enter func159,ntmps159
 go_wp2_with fail
 refine (HRa _).out.mono ?_
 rintro e w1 ⟨rfl,hf⟩
 have H1:=Lib.hid (W2.start (a:=(h,l)) (b:=(u,v)) hf)
 obtain ⟨c0,c1,f0,f1⟩:=Bk.cells H1.out.b1
 obtain ⟨d0,d1,g0,g1⟩:=Bk.cells H1.out.b2
 have H2:=Lib.hid (H1.out.set1 (h,l))
 dsimp only at c0 c1 d0 d1 H2
 clear hf HRa
 go_wp2_with fail
 clear c0 c1 f0 f1 d0 d1 g0 g1 H1
 generalize (w1.setCell ⟨w.heap.size,0,none⟩ (.int .i64 h)).setCell ⟨w.heap.size,1,none⟩ (.int .i64 l)=w2 at *
 refine (HRb _).out.mono ?_
 rintro e w3 ⟨rfl,hf⟩
 have H3:=Lib.hid (H2.out.frF hf)
 have H4:=Lib.hid (H3.out.set2 (u,v))
 obtain ⟨c0,c1,f0,f1⟩:=Bk.cells H3.out.b1
 obtain ⟨d0,d1,g0,g1⟩:=Bk.cells H3.out.b2
 dsimp only at c0 c1 d0 d1 H4
 clear hf H2 HRb
 go_upto_region 3 with (fail)
 clear c0 c1 f0 f1 d0 d1 g0 g1 H3
 generalize (w3.setCell ⟨w.heap.size+1,0,none⟩ (.int .i64 u)).setCell ⟨w.heap.size+1,1,none⟩ (.int .i64 v)=w4 at *
 obtain ⟨c0,c1,f0,f1⟩:=Bk.cells H4.out.b1
 obtain ⟨d0,d1,g0,g1⟩:=Bk.cells H4.out.b2
 dsimp only at c0 c1 d0 d1
 by_cases h2:h=u
 ·have t2:(h != u)=false:=by simpa using h2
  have H2:=Lib.hid h2
  clear h2
  go_wp2_with fail
  go_ret
  exact ⟨by rw [HE.out,H2.out];simp,H4.out.fr⟩
 ·have t2:(h != u)=true:=by simpa using h2
  have H2:=Lib.hid h2
  clear h2
  go_wp2_with fail
  go_ret
  exact ⟨by rw [HE.out];simp [H2.out],H4.out.fr⟩
theorem Of (A:Option Addr) (c:Nat) (l:List Int) (w:World) (hS:Sl w 1 A l.length c (ints l)):Calls prog 160 #[.slice A l.length c] w (PostS (sumS l) w):=by
 have hlen:l.length≤9223372036854775807:=by have:=hS.2.1;have:=hS.2.2.1;unfold maxLen at this;omega
 have HS:=Lib.hid hS
 have HW:=Lib.hid (W2.new w (0,0) (0,0))
 clear hS
 go_enter func160,ntmps160
 go_wp2_with fail
 go_loopg [4] l.length (fun gk i wr=>∃k:Nat,i=.int .i64 k∧k≤l.length∧gk=l.length-k∧W2 w wr w.heap.size (w.heap.size+1) (0,0) (sumS (l.take k)))
 case atStart=>exact ⟨0,rfl,Nat.zero_le _,rfl,HW.out⟩
 case round=>
  clear HW
  obtain ⟨k,rfl,hk,hg,hst⟩:=hrel
  have HG:=Lib.hid hg;have HSt:=Lib.hid hst
  clear hg hst
  by_cases hlt:k<l.length
  ·obtain ⟨b1,o1,rfl,hb1,c1⟩:=HS.out.at hlt (by omega)
   have e1:wr.cell? ⟨b1,o1+k,none⟩=some (.int .i64 l[k]):=(World.cell?_of_block (w:=w) (a:=⟨b1,_,none⟩) (HSt.out.fr.block b1 hb1 (fun h=>h))).trans (c1 k _ (by simp [ints,hlt]))
   have hm:HistP.May (sumS (l.take k)):=May.sum _ May.zero
   have HAd:=fun w=>Lib.hid (Add (sumS (l.take k)) l[k] hm w)
   have HSn:=Lib.hid (sum_snoc l hlt)
   obtain ⟨d0,d1,g0,g1⟩:=Bk.cells HSt.out.b2
   generalize hs:sumS (l.take k)=s at *
   clear hs c1
   generalize l[k]=x at *
   obtain ⟨h,lo⟩:=s
   dsimp only at d0 d1
   have i0:(0:Int)≤(k:Int):=by omega
   have i1:(k:Int)<(l.length:Int):=by omega
   have HK:Hid (∀w2,Fr (fun _=>False) wr.drew w2→W2 w w2 w.heap.size (w.heap.size+1) (0,0) (h,lo)):=fun w2 hf=>HSt.out.frF ((Fr.drew _ _).to hf)
   generalize hsn:addS (h,lo) x=s at *
   obtain ⟨h',lo'⟩:=s
   clear hsn
   go_upto_region 5 with (fail)
   go_region_with (first| (go_at_call 164;refine (HAd _).out.mono ?_;rintro e w2 ⟨rfl,hf⟩;obtain ⟨q0,q1,p0,p1⟩:=Bk.cells (HK.out _ hf).b2;dsimp only at q0 q1))
   all_goals
    have H3:=Lib.hid ((HK.out _ hf).set2 (h',lo'))
    clear hf
    go_wp2_with fail
    go_roundg (l.length-(k+1))
    case rel=>exact ⟨k+1,by go_num,by omega,rfl,by rw [HSn.out];exact H3.out⟩
    case measure=>have:=HG.out;omega
  ·obtain rfl:k=l.length:=by omega
   rw [List.take_length] at HSt
   obtain ⟨c0,c1,f0,f1⟩:=Bk.cells HSt.out.b1
   obtain ⟨d0,d1,g0,g1⟩:=Bk.cells HSt.out.b2
   generalize sumS l=s at *
   obtain ⟨h,lo⟩:=s
   dsimp only at d0 d1 c0 c1
   go_wp2_with fail
   exact bodyPost_ret (results_cell_row rfl _ _ w.heap.size TS _ (0,0) _ rfl ((HSt.out.b1.set 0 _).set 1 _) underlying63 rfl (by kernel_rfl)) rfl ⟨rfl,(HSt.out.fr.set_new (Nat.le_refl _) _).set_new (Nat.le_refl _) _⟩
end Ref04
end Go.Proofs.YtdpngmgaomghoaaGreat
