/- Records of spans, as values. -/
import Derived.Test.YtdpngmgaomghoaaGreatDoorOpens
import Derived.Test.YtdpngmgaomghoaaGreatDoorKB
import Derived.Test.YtdpngmgaomghoaaGreatDoorEngs
import Derived.Lib.Hide
import Derived.WalkSpells
import Derived.WalkLawsBesides
import Derived.BigQuiet
import Derived.Deep.DeepCutAuto
namespace Go.Proofs.YtdpngmgaomghoaaGreatDoor
open Tryz
open Go.RowKit
structure Sn where
 t:Int
 i:Int
 p:Int
 r:Int
 s:ByteArray
 o:ByteArray
 b:Int
 d:Int
 g:Bool
abbrev Sn.cs (x:Sn):List Value:= [.int .i64 x.t,.int .i64 x.i,.int .i64 x.p,.int .i64 x.r,.string x.s,.string x.o,.int .i64 x.b,.int .i64 x.d,.bool x.g]
abbrev Sn.arr (x:Sn):Array Value:= #[.int .i64 x.t,.int .i64 x.i,.int .i64 x.p,.int .i64 x.r,.string x.s,.string x.o,.int .i64 x.b,.int .i64 x.d,.bool x.g]
abbrev Sn.v (x:Sn):Value:=.agg x.arr
def in64 (n:Int):Prop:= -9223372036854775808≤n∧n≤9223372036854775807
structure Sn.ok (x:Sn):Prop where
 t:in64 x.t
 i:in64 x.i
 p:in64 x.p
 r:in64 x.r
 b:in64 x.b
 d:in64 x.d
 s:x.s.size≤maxLen
 o:x.o.size≤maxLen
set_option maxRecDepth 100000
set_option maxHeartbeats 400000
namespace Key
open KeyP
theorem xor_top (m:Nat) (hm:m<18446744073709551616):m ^^^ 9223372036854775808=if m<9223372036854775808 then m+9223372036854775808 else m-9223372036854775808:=by
 have h1:(m ^^^ 2 ^ 63) % 2 ^ 63=m % 2 ^ 63:=by rw [Nat.xor_mod_two_pow];simp
 have h2:(m ^^^ 2 ^ 63) / 2 ^ 63=m / 2 ^ 63 ^^^ 1:=by rw [Nat.xor_div_two_pow]
 rw [show (9223372036854775808:Nat)=2 ^ 63 from rfl]
 have h3:=Nat.div_add_mod (m ^^^ 2 ^ 63) (2 ^ 63)
 rw [h1,h2] at h3
 rw [←h3]
 split
 ·rename_i hlt
  rw [Nat.div_eq_of_lt hlt,Nat.mod_eq_of_lt hlt];simp [Nat.add_comm]
 ·rename_i hlt
  have e:m / 2 ^ 63=1:=by omega
  rw [e];simp;omega
theorem xor63 {n:Int} (h:wf64 n):bits .xor .u64 (IntKind.u64.wrap n) 9223372036854775808=((un n:Nat):Int):=by
 unfold wf64 at h
 have e:IntKind.u64.wrap n=(((n+18446744073709551616) % 18446744073709551616).toNat:Int):=by rw [IntKind.wrap_u64];omega
 rw [e,show (9223372036854775808:Int)=((9223372036854775808:Nat):Int) from rfl,bits_xor_u64_nat _ _ (by omega) (by omega),xor_top _ (by omega)]
 congr 1
 unfold un
 split<;>omega
theorem xor63' {X:Nat} (h:X<18446744073709551616):IntKind.i64.wrap (bits .xor .u64 (X:Int) 9223372036854775808)=(X:Int)-9223372036854775808:=by
 rw [show (9223372036854775808:Int)=((9223372036854775808:Nat):Int) from rfl,bits_xor_u64_nat _ _ (by omega) (by omega),xor_top _ (by omega)]
 simp only [IntKind.wrap,IntKind.bits,IntKind.signed]
 split<;>simp<;>omega
theorem or256 {U c:Nat} (hU:U<72057594037927936) (hc:c<256):bits .or .u64 (IntKind.u64.wrap ((U:Int)*256)) (c:Int)=((U*256+c:Nat):Int):=by
 have e:IntKind.u64.wrap ((U:Int)*256)=((U*256:Nat):Int):=by rw [IntKind.wrap_u64];omega
 have h:=Nat.two_pow_add_eq_or_of_lt (i:=8) (b:=c) (by omega) U
 rw [e,bits_or_u64_nat _ _ (by omega) (by omega),Nat.mul_comm U 256,show (256:Nat)=2 ^ 8 from rfl,←h]
theorem or256' {U c:Nat} (hU:U<72057594037927936) (hc:c<256):bits .or .u64 ((U:Int)*256) (c:Int)=((U*256+c:Nat):Int):=by
 have h:=or256 hU hc
 have e:IntKind.u64.wrap ((U:Int)*256)=(U:Int)*256:=by rw [IntKind.wrap_u64];omega
 rwa [e] at h
theorem byte_ofNat (X:Nat):(((UInt8.ofNat X).toNat:Nat):Int)=(X:Int) % 256:=by rw [UInt8.toNat_ofNat'];omega
theorem byte_at (X K:Nat):(X:Int) / (K:Int) % 256=(((UInt8.ofNat (X / K)).toNat:Nat):Int):=by rw [byte_ofNat,Int.natCast_ediv]
theorem put {n:Int} (h:wf64 n) (w:World):Calls prog 91 #[.int .i64 n] w fun e w'=>e=.returned (.string (ks (kb n)))∧Below w.heap.size w w':=by
 have hx:=xor63 h
 have HB:=Lib.hid fun c=>((Below.refl w.heap.size w).alloc (Nat.le_refl _) (.cells c 141))
 have kc:=fun (W:World) (hc:∀j (hj:j<(kb n).length),W.cell? ((⟨w.heap.size,0,none⟩:Addr).add j)=some (.int .u8 ((kb n)[j].toNat:Int)))=>run_convert_bytes_back (P:=prog) W 131 9 5 ⟨w.heap.size,0,none⟩ 8 (kb n) underlying131 underlying5 underlying9 hc
 have kc:=kc (w.alloc (.cells #[.int .u8 ((un n:Int) / 72057594037927936 % 256),.int .u8 ((un n:Int) / 281474976710656 % 256),.int .u8 ((un n:Int) / 1099511627776 % 256),.int .u8 ((un n:Int) / 4294967296 % 256),.int .u8 ((un n:Int) / 16777216 % 256),.int .u8 ((un n:Int) / 65536 % 256),.int .u8 ((un n:Int) / 256 % 256),.int .u8 ((un n:Int) % 256)] 141)) (by
  intro j hj
  have hj8:j<8:=hj
  have hg:∀ (c:Array Value),(w.alloc (.cells c 141)).cell? ((⟨w.heap.size,0,none⟩:Addr).add j)=c[j]? :=fun c=>by
   have:=cell_of_block (heap_new w (.cells c 141)) j
   simp only [Addr.add]
   split
   ·rename_i e;subst e;exact this
   ·show World.cell? _ ⟨w.heap.size,0+j,none⟩=_;rw [Nat.zero_add];exact this
  rw [hg]
  unfold kb
  match j,hj8 with
  |0,_=>exact congrArg (fun z=>some (Value.int IntKind.u8 z)) (byte_at (un n) 72057594037927936)
  |1,_=>exact congrArg (fun z=>some (Value.int IntKind.u8 z)) (byte_at (un n) 281474976710656)
  |2,_=>exact congrArg (fun z=>some (Value.int IntKind.u8 z)) (byte_at (un n) 1099511627776)
  |3,_=>exact congrArg (fun z=>some (Value.int IntKind.u8 z)) (byte_at (un n) 4294967296)
  |4,_=>exact congrArg (fun z=>some (Value.int IntKind.u8 z)) (byte_at (un n) 16777216)
  |5,_=>exact congrArg (fun z=>some (Value.int IntKind.u8 z)) (byte_at (un n) 65536)
  |6,_=>exact congrArg (fun z=>some (Value.int IntKind.u8 z)) (byte_at (un n) 256)
  |7,_=>exact congrArg (fun z=>some (Value.int IntKind.u8 z)) (byte_ofNat (un n)).symm)
 have HX:=Lib.hid (un_lt h)
 rw [show (kb n).length=8 from rfl] at kc
 rw [show (⟨(kb n).toArray⟩:ByteArray)=ks (kb n) from rfl] at kc
 generalize ks (kb n)=K at *
 generalize un n=X at *
 clear h
 go_enter func91,ntmps91
 go_wp2_with fail
 refine wp_loop_rounds 9 ?_
 iterate 8 (rw [rounds_succ];go_wp2_with fail)
 rw [rounds_succ];go_wp2_with fail
 go_ret
 exact ⟨rfl,HB.out _⟩
theorem Of {a b:Int} (ha:wf64 a) (hb:wf64 b) (w:World):Calls prog 66 #[.int .i64 a,.int .i64 b] w fun e w'=>e=.returned (.string (key2 a b))∧Below w.heap.size w w':=by
 have H1:=Lib.hid (put ha w);have H2:=Lib.hid (fun W:World=>put hb W)
 have s1:=ks_size (kb a);have s2:=ks_size (kb b)
 rw [kb_len] at s1 s2
 have HE:=Lib.hid (ks_app (kb a) (kb b))
 clear ha hb
 unfold key2
 generalize ks (kb a)=A at *
 generalize ks (kb b)=B at *
 go_enter func66,ntmps66
 go_wp2_with fail
 refine H1.out.mono ?_
 rintro e w1 ⟨rfl,hb1⟩
 have HB1:=Lib.hid hb1
 clear hb1
 go_wp2_with fail
 refine (H2.out _).mono ?_
 rintro e w2 ⟨rfl,hb2⟩
 have HB2:=Lib.hid (HB1.out.trans (hb2.mono HB1.out.size))
 clear hb2
 go_wp2_with fail
 go_ret
 exact ⟨by rw [←HE.out];rfl,HB2.out⟩
theorem Span (x:Sn) (ha:wf64 x.t) (hb:wf64 x.i) (w:World):Calls prog 59 #[x.v] w fun e w'=>e=.returned (.string (key2 x.t x.i))∧Below w.heap.size w w':=by
 obtain ⟨t,i,p,r,s,o,b,d,g⟩:=x
 have H1:=Lib.hid (fun W:World=>Of ha hb W)
 have HB:=Lib.hid ((Below.refl w.heap.size w).alloc (Nat.le_refl _) (.cells (Sn.arr ⟨t,i,p,r,s,o,b,d,g⟩) 48))
 have HZ:Hid (w.heap.size≤(w.alloc (.cells (Sn.arr ⟨t,i,p,r,s,o,b,d,g⟩) 48)).heap.size):=by show _≤_;simp
 clear ha hb
 dsimp only at H1
 go_enter func59,ntmps59
 go_wp2_with fail
 refine (H1.out _).mono ?_
 rintro e w1 ⟨rfl,hb1⟩
 have HB1:=Lib.hid (HB.out.trans (hb1.mono HZ.out))
 clear hb1
 go_wp2_with fail
 go_ret
 exact ⟨rfl,HB1.out⟩
theorem take (s:ByteArray) (hs:s.size=8) (w:World):Calls prog 73 #[.string s] w fun e w'=>e=.returned (.int .i64 ((val s.data.toList:Nat)-9223372036854775808))∧Below w.heap.size w w':=by
 have kc:=run_bytes_of_string (P:=prog) w 9 131 5 s underlying9 underlying131 underlying5
 have HA:=Lib.hid (fun j hj=>bytesRow_at s (grownCap w s.size 0 5) j hj)
 generalize hC:bytesRow s (grownCap w s.size 0 5)=C at *
 generalize grownCap w s.size 0 5=cap at *
 clear hC
 have HB:=Lib.hid (((Below.refl w.heap.size w).drew).alloc (Nat.le_refl _) (.cells C 5 (C.size,C.size+1)))
 have HC:Hid (∀j (hj:j<s.data.toList.length),(w.drew.alloc (.cells C 5 (C.size,C.size+1))).cell? ⟨w.heap.size,j,none⟩=some (.int .u8 (s.data.toList[j].toNat:Nat))):=fun j hj=>by
  have h1:=World.cell?_alloc_mark w.drew C 5 (C.size,C.size+1) j
  have h2:=HA.out j (by simpa using hj)
  rw [h2] at h1
  simpa using h1
 have hl:s.data.toList.length=8:=by simpa using hs
 rw [hs] at kc
 generalize w.drew.alloc (.cells C 5 (C.size,C.size+1))=w1 at *
 generalize hL:s.data.toList=l at *
 have HL:=Lib.hid hl;have HS:=Lib.hid hs
 clear hL HA hl hs
 go_enter func73,ntmps73
 go_wp2_with fail
 go_loopg [3,5,9] 8 (fun gk u _ i wr=>∃k:Nat,i=.int .i64 k∧k≤8∧gk=8-k∧u=.int .u64 (val (l.take k):Nat)∧w1=wr)
 case atStart=>exact ⟨0,rfl,Nat.zero_le _,rfl,rfl,rfl⟩
 case round=>
  obtain ⟨k,rfl,hk,hg,rfl,rfl⟩:=hrel
  have HG:=Lib.hid hg
  clear hg
  by_cases hlt:k<8
  ·have hkl:k<l.length:=by rw [HL.out];exact hlt
   have d0:w1.cell? ⟨w.heap.size,k,none⟩=some (.int .u8 ((l[k].toNat:Nat):Int)):=HC.out k hkl
   have HT:Hid (val (l.take (k+1))=val (l.take k)*256+l[k].toNat):=by show _=_;rw [List.take_succ_eq_append_getElem hkl,val_snoc]
   have hv:=val_lt (l.take k)
   have hU:val (l.take k)<72057594037927936:=by
    rw [List.length_take,HL.out] at hv
    have:256 ^ (min k 8)≤256 ^ 7:=Nat.pow_le_pow_right (by omega) (by omega)
    omega
   have hc:=l[k].toNat_lt
   have HO:=Lib.hid (or256' hU hc)
   clear hv
   generalize val (l.take k)=U at *
   generalize l[k].toNat=c at *
   have q1:(0:Int)≤(c:Int):=by omega
   have q2:(c:Int)<256:=by omega
   have q3:(0:Int)≤(U:Int):=by omega
   clear hc
   go_wp2_with fail
   go_roundg (8-(k+1))
   case rel=>exact ⟨k+1,by go_num,by omega,rfl,by rw [HT.out,←HO.out],rfl⟩
   case measure=>have:=HG.out;omega
  ·obtain rfl:k=8:=by omega
   have hv:=val_lt l
   rw [HL.out] at hv
   have HT:Hid (val (l.take 8)=val l):=by show _=_;rw [List.take_of_length_le (by rw [HL.out];omega)]
   have hx:=xor63' hv
   rw [HT.out]
   clear hv
   go_wp2_with fail
   go_ret
   exact ⟨rfl,HB.out⟩
end Key
namespace Key
open KeyP
attribute [local go_sem] Eng.ev Eng.getO_cons Eng.getO_nil
theorem ks_ext1 (a b:List UInt8):(ks (a++b)).extract 0 a.length=ks a:=by
 apply ByteArray.ext
 simp [ks,ByteArray.data_extract]
theorem ks_ext2 (a b:List UInt8):(ks (a++b)).extract a.length (a.length+b.length)=ks b:=by
 apply ByteArray.ext
 simp [ks,ByteArray.data_extract]
theorem take_kb {n:Int} (h:wf64 n) (w:World):Calls prog 73 #[.string (ks (kb n))] w fun e w'=>e=.returned (.int .i64 n)∧Fr (fun _=>False) w w':=by
 refine (take (ks (kb n)) (by rw [ks_size];rfl) w).mono ?_
 rintro e w' ⟨rfl,hb⟩
 refine ⟨?_,(Fr.of_below hb).mono (fun i hi h=>by omega)⟩
 rw [ks_data,val_kb h]
 congr 2
 unfold un;unfold wf64 at h;omega
theorem sp3 {ops:Array Oper} (hops:Eng.fnOps Tryz.f49 3=ops) (a0:Act) (Q:Exit→Act→World→Prop) (w:World) (s:ByteArray) (a b:Int) (hs:Hid (s.size=16)) (h1:∀W,Calls prog 73 #[.string (s.extract 0 8)] W fun e w'=>e=.returned (.int .i64 a)∧Fr (fun _=>False) W w') (h2:∀W,Calls prog 73 #[.string (s.extract 8 16)] W fun e w'=>e=.returned (.int .i64 b)∧Fr (fun _=>False) W w')
  (hn:a0.tmps.size=14) (h_0:a0.tmps.getD 0 undef=.string s)
  (hpost:∀ (x:Nat→Value) (w':World),x 2=.int .i64 a→x 3=.int .i64 b→x 4=.bool true→Fr (fun _=>False) w w'→Q .normal (Eng.setAll a0 [2,3,4,8,9,10,11,12,13] x) w'):
  (Code.region 3 ops true).wp prog Q a0 w:=by
 simp only [Eng.fnOps,Eng.regOps,Tryz.f49,Option.bind_some,Option.getD_some,Nat.reduceEqDiff,↓reduceIte] at hops
 subst hops
 have s1:s.size=16:=hs.out
 have HSt:=Lib.hid (Fr.drew (fun _=>False) w)
 refine Eng.regionT (.take 0 (.take 1 (.take 3 (.take 4 (.alt 2 (.alt 5 (.take 6 (.take 7 (.take 8 (.done)))) (.stop)) (.stop)))))) (fun w'=>True) (by kernel_rfl) 14 hn (by kernel_rfl) (by kernel_rfl) (by kernel_rfl) (trivial) (fun a b ha hb=>?_)
 subst ha
 have hb0:b 0=.string s:=(hb 0).symm.trans h_0
 clear hb h_0
 have HP:=Lib.hid hpost;have HN:=Lib.hid hn
 clear hpost hn
 iterate 4 (refine Eng.TW.tk ?_)
 refine Eng.TW.call rfl rfl (by decide) (by kernel_rfl) ?_ (h1 _) ?_
 ·go_simp
 rintro e w2 ⟨rfl,hf⟩
 have HSt2:=Lib.hid (HSt.out.trans hf (T:=fun _=>False) (fun _ _ h=>h) (fun _ _ h=>h))
 clear hf
 refine ⟨_,rfl,trivial,?_⟩
 refine Eng.TW.call rfl rfl (by decide) (by kernel_rfl) ?_ (h2 _) ?_
 ·go_simp
 rintro e w3 ⟨rfl,hf⟩
 have HSt3:=Lib.hid (HSt2.out.trans hf (T:=fun _=>False) (fun _ _ h=>h) (fun _ _ h=>h))
 clear hf
 refine ⟨_,rfl,trivial,?_⟩
 iterate 3 (refine Eng.TW.tk ?_)
 refine Eng.TW.end_ [2,3,4,8,9,10,11,12,13] HN.out (by kernel_rfl) (by kernel_rfl) ?_
 exact HP.out _ _ rfl rfl rfl HSt3.out
theorem Split {a b:Int} (ha:wf64 a) (hb:wf64 b) (w:World):Calls prog 49 #[.string (key2 a b)] w fun e w'=>e=.returned (.tuple #[.int .i64 a,.int .i64 b,.bool true])∧Fr (fun _=>False) w w':=by
 have h1:=Lib.hid (take_kb ha)
 have h2:=Lib.hid (take_kb hb)
 rw [←ks_ext1 (kb a) (kb b)] at h1
 rw [←ks_ext2 (kb a) (kb b)] at h2
 have hs:(key2 a b).size=16:=by rw [key2,ks_size];rfl
 have hs':=Lib.hid hs
 have q:((16:Int) != 16)=false:=by decide
 unfold key2 at *
 generalize ks (kb a++kb b)=s at *
 go_enter func49,ntmps49
 go_upto_region 3 with (fail)
 refine sp3 (by kernel_rfl) _ _ w s a b hs' h1.out h2.out rfl rfl ?_
 intro x w' e2 e3 e4 hf
 simp only [Eng.setAll,Act.put,List.setIfInBounds_toArray,List.set_cons_succ,List.set_cons_zero]
 rw [e2,e3,e4]
 have HF:=Lib.hid hf
 clear e2 e3 e4 hf
 go_wp2_with fail
 go_ret3
 exact ⟨rfl,HF.out⟩
end Key
end Go.Proofs.YtdpngmgaomghoaaGreatDoor
