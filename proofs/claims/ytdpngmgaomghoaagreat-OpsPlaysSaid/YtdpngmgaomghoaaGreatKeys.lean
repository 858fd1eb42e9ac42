/- Records of spans, as values. -/
import Derived.Test.YtdpngmgaomghoaaGreatOpens
import Derived.Test.YtdpngmgaomghoaaGreatKB
import Derived.Test.YtdpngmgaomghoaaGreatEngs
import Derived.Lib.Hide
import Derived.WalkSpells
import Derived.WalkLawsBesides
import Derived.BigQuiet
import Derived.Deep.DeepCutAuto
namespace Go.Proofs.YtdpngmgaomghoaaGreat
open Tryz
open Go.RowKit
structure Sn where
 t:Int
 i:Int
 p:Int
 r:Int
 s:ByteArray
 o:ByteArray
 b:Int
 d:Int
 g:Bool
abbrev Sn.cs (x:Sn):List Value:= [.int .i64 x.t,.int .i64 x.i,.int .i64 x.p,.int .i64 x.r,.string x.s,.string x.o,.int .i64 x.b,.int .i64 x.d,.bool x.g]
abbrev Sn.arr (x:Sn):Array Value:= #[.int .i64 x.t,.int .i64 x.i,.int .i64 x.p,.int .i64 x.r,.string x.s,.string x.o,.int .i64 x.b,.int .i64 x.d,.bool x.g]
abbrev Sn.v (x:Sn):Value:=.agg x.arr
def in64 (n:Int):Prop:= -9223372036854775808≤n∧n≤9223372036854775807
structure Sn.ok (x:Sn):Prop where
 t:in64 x.t
 i:in64 x.i
 p:in64 x.p
 r:in64 x.r
 b:in64 x.b
 d:in64 x.d
 s:x.s.size≤maxLen
 o:x.o.size≤maxLen
set_option maxRecDepth 100000
namespace Key
open KeyP
theorem xor_top (m:Nat) (hm:m<18446744073709551616):m ^^^ 9223372036854775808=if m<9223372036854775808 then m+9223372036854775808 else m-9223372036854775808:=by
 have h1:(m ^^^ 2 ^ 63) % 2 ^ 63=m % 2 ^ 63:=by rw [Nat.xor_mod_two_pow];simp
 have h2:(m ^^^ 2 ^ 63) / 2 ^ 63=m / 2 ^ 63 ^^^ 1:=by rw [Nat.xor_div_two_pow]
 rw [show (9223372036854775808:Nat)=2 ^ 63 from rfl]
 have h3:=Nat.div_add_mod (m ^^^ 2 ^ 63) (2 ^ 63)
 rw [h1,h2] at h3
 rw [←h3]
 split
 ·rename_i hlt
  rw [Nat.div_eq_of_lt hlt,Nat.mod_eq_of_lt hlt];simp [Nat.add_comm]
 ·rename_i hlt
  have e:m / 2 ^ 63=1:=by omega
  rw [e];simp;omega
theorem xor63 {n:Int} (h:wf64 n):bits .xor .u64 (IntKind.u64.wrap n) 9223372036854775808=((un n:Nat):Int):=by
 unfold wf64 at h
 have e:IntKind.u64.wrap n=(((n+18446744073709551616) % 18446744073709551616).toNat:Int):=by rw [IntKind.wrap_u64];omega
 rw [e,show (9223372036854775808:Int)=((9223372036854775808:Nat):Int) from rfl,bits_xor_u64_nat _ _ (by omega) (by omega),xor_top _ (by omega)]
 congr 1
 unfold un
 split<;>omega
theorem byte_ofNat (X:Nat):(((UInt8.ofNat X).toNat:Nat):Int)=(X:Int) % 256:=by rw [UInt8.toNat_ofNat'];omega
theorem byte_at (X K:Nat):(X:Int) / (K:Int) % 256=(((UInt8.ofNat (X / K)).toNat:Nat):Int):=by rw [byte_ofNat,Int.natCast_ediv]
theorem put {n:Int} (h:wf64 n) (w:World):Calls prog 187 #[.int .i64 n] w fun e w'=>e=.returned (.string (ks (kb n)))∧Below w.heap.size w w':=by
 have hx:=xor63 h
 have HB:=Lib.hid fun c=>((Below.refl w.heap.size w).alloc (Nat.le_refl _) (.cells c 291))
 have kc:=fun (W:World) (hc:∀j (hj:j<(kb n).length),W.cell? ((⟨w.heap.size,0,none⟩:Addr).add j)=some (.int .u8 ((kb n)[j].toNat:Int)))=>run_convert_bytes_back (P:=prog) W 23 9 5 ⟨w.heap.size,0,none⟩ 8 (kb n) underlying23 underlying5 underlying9 hc
 have kc:=kc (w.alloc (.cells #[.int .u8 ((un n:Int) / 72057594037927936 % 256),.int .u8 ((un n:Int) / 281474976710656 % 256),.int .u8 ((un n:Int) / 1099511627776 % 256),.int .u8 ((un n:Int) / 4294967296 % 256),.int .u8 ((un n:Int) / 16777216 % 256),.int .u8 ((un n:Int) / 65536 % 256),.int .u8 ((un n:Int) / 256 % 256),.int .u8 ((un n:Int) % 256)] 291)) (by
  intro j hj
  have hj8:j<8:=hj
  have hg:∀ (c:Array Value),(w.alloc (.cells c 291)).cell? ((⟨w.heap.size,0,none⟩:Addr).add j)=c[j]? :=fun c=>by
   have:=cell_of_block (heap_new w (.cells c 291)) j
   simp only [Addr.add]
   split
   ·rename_i e;subst e;exact this
   ·show World.cell? _ ⟨w.heap.size,0+j,none⟩=_;rw [Nat.zero_add];exact this
  rw [hg]
  unfold kb
  match j,hj8 with
  |0,_=>exact congrArg (fun z=>some (Value.int IntKind.u8 z)) (byte_at (un n) 72057594037927936)
  |1,_=>exact congrArg (fun z=>some (Value.int IntKind.u8 z)) (byte_at (un n) 281474976710656)
  |2,_=>exact congrArg (fun z=>some (Value.int IntKind.u8 z)) (byte_at (un n) 1099511627776)
  |3,_=>exact congrArg (fun z=>some (Value.int IntKind.u8 z)) (byte_at (un n) 4294967296)
  |4,_=>exact congrArg (fun z=>some (Value.int IntKind.u8 z)) (byte_at (un n) 16777216)
  |5,_=>exact congrArg (fun z=>some (Value.int IntKind.u8 z)) (byte_at (un n) 65536)
  |6,_=>exact congrArg (fun z=>some (Value.int IntKind.u8 z)) (byte_at (un n) 256)
  |7,_=>exact congrArg (fun z=>some (Value.int IntKind.u8 z)) (byte_ofNat (un n)).symm)
 have HX:=Lib.hid (un_lt h)
 rw [show (kb n).length=8 from rfl] at kc
 rw [show (⟨(kb n).toArray⟩:ByteArray)=ks (kb n) from rfl] at kc
 generalize ks (kb n)=K at *
 generalize un n=X at *
 clear h
 go_enter func187,ntmps187
 go_wp2_with fail
 refine wp_loop_rounds 9 ?_
 iterate 8 (rw [rounds_succ];go_wp2_with fail)
 rw [rounds_succ];go_wp2_with fail
 go_ret
 exact ⟨rfl,HB.out _⟩
theorem Of {a b:Int} (ha:wf64 a) (hb:wf64 b) (w:World):Calls prog 118 #[.int .i64 a,.int .i64 b] w fun e w'=>e=.returned (.string (key2 a b))∧Below w.heap.size w w':=by
 have H1:=Lib.hid (put ha w);have H2:=Lib.hid (fun W:World=>put hb W)
 have s1:=ks_size (kb a);have s2:=ks_size (kb b)
 rw [kb_len] at s1 s2
 have HE:=Lib.hid (ks_app (kb a) (kb b))
 clear ha hb
 unfold key2
 generalize ks (kb a)=A at *
 generalize ks (kb b)=B at *
 go_enter func118,ntmps118
 go_wp2_with fail
 refine H1.out.mono ?_
 rintro e w1 ⟨rfl,hb1⟩
 have HB1:=Lib.hid hb1
 clear hb1
 go_wp2_with fail
 refine (H2.out _).mono ?_
 rintro e w2 ⟨rfl,hb2⟩
 have HB2:=Lib.hid (HB1.out.trans (hb2.mono HB1.out.size))
 clear hb2
 go_wp2_with fail
 go_ret
 exact ⟨by rw [←HE.out];rfl,HB2.out⟩
theorem Span (x:Sn) (ha:wf64 x.t) (hb:wf64 x.i) (w:World):Calls prog 136 #[x.v] w fun e w'=>e=.returned (.string (key2 x.t x.i))∧Below w.heap.size w w':=by
 obtain ⟨t,i,p,r,s,o,b,d,g⟩:=x
 have H1:=Lib.hid (fun W:World=>Of ha hb W)
 have HB:=Lib.hid ((Below.refl w.heap.size w).alloc (Nat.le_refl _) (.cells (Sn.arr ⟨t,i,p,r,s,o,b,d,g⟩) 29))
 have HZ:Hid (w.heap.size≤(w.alloc (.cells (Sn.arr ⟨t,i,p,r,s,o,b,d,g⟩) 29)).heap.size):=by show _≤_;simp
 clear ha hb
 dsimp only at H1
 go_enter func136,ntmps136
 go_wp2_with fail
 refine (H1.out _).mono ?_
 rintro e w1 ⟨rfl,hb1⟩
 have HB1:=Lib.hid (HB.out.trans (hb1.mono HZ.out))
 clear hb1
 go_wp2_with fail
 go_ret
 exact ⟨rfl,HB1.out⟩
end Key
namespace Key
open KeyP
attribute [local go_sem] Eng.ev Eng.getO_cons Eng.getO_nil
end Key
end Go.Proofs.YtdpngmgaomghoaaGreat
