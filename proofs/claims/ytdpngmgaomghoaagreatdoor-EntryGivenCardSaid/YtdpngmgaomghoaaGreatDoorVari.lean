/- The bytes of numbers: the program's. -/
import Derived.Test.YtdpngmgaomghoaaGreatDoorPackPs
import Derived.Test.YtdpngmgaomghoaaGreatDoorSetWs
import Derived.Great.BuildSlice
namespace Go.Proofs.YtdpngmgaomghoaaGreatDoor
open Tryz
set_option maxRecDepth 100000
set_option maxHeartbeats 1000000
open Go.RowKit
namespace Vari
open KeyP PackP
abbrev TB:TypeId:=5
abbrev TBs:TypeId:=131
abbrev bc (c:UInt8):Value:=.int .u8 ((c.toNat:Nat):Int)
theorem infoB:(prog.info? TB).map (fun i=>(i.zero,i.size,i.bytes))=some (some (.int .u8 0),1,1):=by kernel_rfl
theorem info_partsB {o:Option TypeInfo} {z:Value} {s b:Nat} (h:o.map (fun i=>(i.zero,i.size,i.bytes))=some (some z,s,b)):∃i,o=some i∧i.zero=some z∧i.size=s∧i.bytes=b:=by
 cases o with
 |none=>cases h
 |some i=>exact ⟨i,rfl,by simpa using congrArg (·.map (·.1)) h,by simpa using congrArg (·.map (·.2.1)) h,by simpa using congrArg (·.map (·.2.2)) h⟩
theorem conv_own {w:World} {base:Nat} {v:Value} {B:List UInt8} {n:Nat} (h:w.ownsRow base TB 1 v n (B.map bc)):(convert TBs 9 v).run prog w=.ok (.string (ks B)) w:=by
 obtain ⟨A,c,rfl,hs,-⟩:=Sl.of_own h
 have hl:B.length=n:=by have:=hs.1;rw [List.length_map] at this;omega
 by_cases hne:B= []
 ·subst hne
  have hn:n=0:=by simpa using hl.symm
  subst hn
  cases A with
  |none=>exact run_convert_bytes_nil w TBs TB underlying131 underlying5 0 c 9 underlying9
  |some a=>exact run_convert_bytes_back w TBs 9 TB a c [] underlying131 underlying5 underlying9 (fun j hj=>by simp at hj)
 ·obtain ⟨b,o,rfl,hc⟩:=hs.2.2.2.2 (by simpa using hne)
  have:=run_convert_bytes_back (P:=prog) w TBs 9 TB ⟨b,o,none⟩ c B underlying131 underlying5 underlying9 (fun j hj=>by
   have h1:=hc j (bc B[j]) (by rw [List.getElem?_map,List.getElem?_eq_getElem hj];rfl)
   simp only [Addr.add]
   split
   ·rename_i e;subst e;exact h1
   ·exact h1)
  rw [hl] at this
  exact this
theorem or128 (m:Nat):bits .or .u8 ((m:Int) % 256) 128=(((UInt8.ofNat (m % 128+128)).toNat:Nat):Int):=by
 have key:∀k:Nat,k<256→(k|||128)=k % 128+128:=fun k hk=>by
  have h0:=Nat.two_pow_add_eq_or_of_lt (i:=7) (b:=k % 128) (by omega) 1
  have h1:=Nat.two_pow_add_eq_or_of_lt (i:=7) (b:=k % 128) (by omega) (k / 128)
  have h2:k=2 ^ 7*(k / 128)|||k % 128:=by rw [←h1];omega
  have h3:k / 128=0∨k / 128=1:=by omega
  rcases h3 with h3|h3
  ·have:k=k % 128:=by omega
   rw [Nat.or_comm,show (128:Nat)=2 ^ 7*1 from rfl]
   conv=>lhs;rw [this]
   rw [←h0];omega
  ·rw [h3] at h2
   conv=>lhs;rw [h2]
   rw [show (128:Nat)=2 ^ 7*1 from rfl,Nat.or_assoc,Nat.or_comm (k % 128),←Nat.or_assoc,Nat.or_self,←h0];omega
 have h:=(bits_nat .u8 8 (by decide) wraps_u8 (m % 256) 128 (by omega) (by omega)).2
 rw [show ((m:Int) % 256)=((m % 256:Nat):Int) by omega,show (128:Int)=((128:Nat):Int) from rfl,h,key (m % 256) (by omega),UInt8.toNat_ofNat']
 congr 1
 omega
theorem byte_lt {m:Nat} (_h:m<128):(m:Int) % 256=(((UInt8.ofNat m).toNat:Nat):Int):=by rw [UInt8.toNat_ofNat'];omega
theorem wpList_byte {ops:Array Oper} {rest:List Oper} {o:Oper} {a:Act} {w:World} {Q:Exit→Act→World→Prop} (hg:o.guard=none) (x:Operand) (ho:o.op=.buildSlice TBs 1 #[(0,x)])
  (n:Int) (hx:a.eval x=.int .u8 n) (h:wpList prog ops Q rest (a.put o.dst (.slice (some ⟨w.heap.size,0,none⟩) 1 1)) (w.alloc (.cells #[.int .u8 n] TB))):wpList prog ops Q (o::rest) a w:=by
 obtain ⟨i0,hi,hz0,hz1,hz2⟩:=info_partsB infoB
 refine wpList_buildSlice hg TBs TB 1 _ ho _ i0 (.int .u8 0) underlying131 hi hz0 (by rw [hz1];decide) (by rw [hz1];decide) ?_ h
 rw [hz1]
 have e1:(#[(0,x)].map fun (i,x)=>(i,a.eval x)).toList= [((0:Nat),Value.int .u8 n)]:=by simp [hx]
 refine (congrArg (Instr.fill _ _) e1).trans ?_
 kernel_rfl
structure OB (w wr:World) (v:Value) (B:List UInt8):Prop where
 own:wr.ownsRow w.heap.size TB 1 v B.length (B.map bc)
 bel:Below w.heap.size w wr
 sz:w.heap.size≤wr.heap.size
theorem OB.nil (w:World):OB w w (.slice none 0 0) []:=⟨World.ownsRow_nil _ _ _ _,Below.refl _ _,Nat.le_refl _⟩
theorem OB.add {w wr w2:World} {v v':Value} {B:List UInt8} {c:UInt8} {o:Obj} (h:OB w wr v B) (hown:w2.ownsRow w.heap.size TB 1 v' (B.length+1) (B.map bc++ [bc c])) (hg:(wr.alloc o).grownBy w2 v.ownBlock):OB w w2 v' (B++ [c]):=by
 have f1:Fr (fun b=>v.ownBlock=some b) wr w2:=(Fr.alloc (fun _=>False) wr o).trans (Fr.grown hg (S:=fun b=>v.ownBlock=some b) (fun k h=>h)) (fun _ _ h=>h.elim) (fun _ _ h=>h)
 refine ⟨by rw [List.length_append,List.map_append];exact hown,h.bel.trans (f1.below h.sz (fun k hk e=>by have:=(ownsRow_blk h.own k e).1;omega)),Nat.le_trans h.sz f1.size⟩
theorem put {u:Nat} (hu:u<18446744073709551616) (w:World):Calls prog 141 #[.int .u64 (u:Int)] w fun e w'=>e=.returned (.string (ks (vb u)))∧Below w.heap.size w w':=by
 obtain ⟨i0,hi,hz0,hz1,hz2⟩:=info_partsB infoB
 have HB:=Lib.hid (Below.refl w.heap.size w)
 have HU:=Lib.hid (vb_len10 hu)
 generalize hv:vb u=V at *
 have HV:=Lib.hid hv
 clear hv
 go_enter func141,ntmps141
 go_wp2_with fail
 go_loopg [0,3] u (fun gk uv v wr=>∃ (m:Nat) (B:List UInt8),uv=.int .u64 (m:Int)∧m<18446744073709551616∧gk=m∧V=B++vb m∧OB w wr v B)
 case atStart=>exact ⟨u,[],rfl,hu,rfl,HV.out.symm,OB.nil w⟩
 case round=>
  obtain ⟨m,B,rfl,hm,hg,hV,hob⟩:=hrel
  have HM:=Lib.hid hm;have HG:=Lib.hid hg;have HVm:=Lib.hid hV;have HO:=Lib.hid hob
  have hlen:B.length≤10:=by have:=HU.out;rw [hV,List.length_append] at this;omega
  have hsz:w.heap.size≤wr.heap.size:=hob.sz
  clear hg hV hob HU
  have m0:(0:Int)≤(m:Int):=by omega
  have m1:(m:Int)<18446744073709551616:=by omega
  clear hm
  by_cases hlt:m<128
  ·have t1:decide ((128:Int)≤(m:Int))=false:=by simp;omega
   have HVE:Hid (V=B++ [UInt8.ofNat m]):=by show _=_;rw [HVm.out,vb_lt hlt]
   have hbt:=byte_lt hlt
   have hown1':=HO.out.own.alloc (.cells #[bc (UInt8.ofNat m)] TB)
   clear hlt
   go_wp2_with (first| (refine wpList_byte rfl (.tmp 16) rfl _ rfl ?_)| (at_builtin;refine wpList_append_sl _ rfl (.tmp 14) (.tmp 17) TBs rfl w.heap.size TB i0 (.int .u8 0) 1 1 underlying131 hi hz0 hz1 hz2 rfl (by decide) _ _ _ rfl hown1' _ _ _ _ rfl (Sl.one wr TB [bc (UInt8.ofNat m)] 1 rfl) (by simp [Value.oneCell']) ?_ ?_ ?_ ?_))
   ·unfold maxLen;omega
   ·omega
   ·first|omega| (simp;omega)
   intro v1 w1 hown1 hgrow1
   have kc:(convert TBs 9 v1).run prog w1=.ok (.string (ks V)) w1:=by
    rw [HVE.out]
    refine conv_own (base:=w.heap.size) (n:=B.length+1) ?_
    rw [List.map_append];exact hown1
   have HB1:=Lib.hid (HO.out.add hown1 hgrow1).bel
   clear hown1 hgrow1 hown1' hbt
   go_wp2_with fail
   go_ret
   exact ⟨rfl,HB1.out⟩
  ·have t1:decide ((128:Int)≤(m:Int))=true:=by simp;omega
   have hor:=or128 m
   have HVE:Hid (V=(B++ [UInt8.ofNat (m % 128+128)])++vb (m / 128)):=by show _=_;rw [HVm.out,vb_ge hlt,List.append_assoc];rfl
   have HLt:=Lib.hid hlt
   clear hlt
   generalize UInt8.ofNat (m % 128+128)=X at *
   have hown1':=HO.out.own.alloc (.cells #[bc X] TB)
   go_wp2_with (first| (refine wpList_byte rfl (.tmp 11) rfl _ rfl ?_)| (at_builtin;refine wpList_append_sl _ rfl (.tmp 8) (.tmp 12) TBs rfl w.heap.size TB i0 (.int .u8 0) 1 1 underlying131 hi hz0 hz1 hz2 rfl (by decide) _ _ _ rfl hown1' _ _ _ _ rfl (Sl.one wr TB [bc X] 1 rfl) (by simp [Value.oneCell']) ?_ ?_ ?_ ?_))
   ·unfold maxLen;omega
   ·omega
   ·first|omega| (simp;omega)
   intro v1 w1 hown1 hgrow1
   have HB1:=Lib.hid (HO.out.add hown1 hgrow1)
   clear hown1 hgrow1 hown1' hor
   go_wp2_with fail
   go_roundg (m / 128)
   case rel=>exact ⟨m / 128,_,by go_num,by have:=HM.out;omega,rfl,HVE.out,HB1.out⟩
   case measure=>have:=HG.out;have:=HLt.out;omega
theorem conv_one (w:World) (c:UInt8):(convert TBs 9 (.slice (some ⟨w.heap.size,0,none⟩) 1 1)).run prog (w.alloc (.cells #[bc c] TB))=.ok (.string (ks [c])) (w.alloc (.cells #[bc c] TB)):=
 run_convert_bytes_back (P:=prog) _ TBs 9 TB ⟨w.heap.size,0,none⟩ 1 [c] underlying131 underlying5 underlying9 (fun j hj=>by
  have hj0:j=0:=by simpa using hj
  subst hj0
  exact cell_of_block (heap_new w (.cells #[bc c] TB)) 0)
theorem Put {n:Int} (h:in64 n) (w:World):Calls prog 136 #[.int .i64 n] w fun e w'=>e=.returned (.string (ks (nb n)))∧Below w.heap.size w w':=by
 by_cases hn:n<0
 ·have HE:Hid (ks (nb n)=ByteArray.empty):=by show _=_;unfold nb;rw [if_pos hn];rfl
  have HB:=Lib.hid (Below.refl w.heap.size w)
  have t1:decide (n<0)=true:=by simpa using hn
  clear h hn
  go_enter func136,ntmps136
  go_wp2_with fail
  go_ret
  exact ⟨by rw [HE.out];rfl,HB.out⟩
 ·have t1:decide (n<0)=false:=by simpa using hn
  obtain ⟨m,rfl⟩:=Int.eq_ofNat_of_zero_le (show 0≤n by omega)
  have hm:m<18446744073709551616:=by unfold in64 at h;omega
  have HE:Hid (nb (m:Int)=vb m):=by show _=_;rw [nb_ge (by omega)];rfl
  have HP:=Lib.hid (put hm w)
  have m0:(0:Int)≤(m:Int):=by omega
  have m1:(m:Int)<18446744073709551616:=by omega
  clear h hn hm
  go_enter func136,ntmps136
  go_wp2_with fail
  refine HP.out.mono ?_
  rintro e w1 ⟨rfl,hb1⟩
  have HB1:=Lib.hid hb1
  clear hb1
  go_wp2_with fail
  go_ret
  exact ⟨by rw [HE.out];rfl,HB1.out⟩
theorem xor_ones {m:Nat} (h:m<18446744073709551616):m ^^^ 18446744073709551615=18446744073709551615-m:=by
 have h1:=congrArg BitVec.toNat (BitVec.xor_allOnes (x:=BitVec.ofNat 64 m))
 rw [BitVec.toNat_xor,BitVec.toNat_not,BitVec.toNat_allOnes,BitVec.toNat_ofNat,Nat.mod_eq_of_lt h] at h1
 exact h1
theorem zz_bits {n:Int} (h:in64 n):bits .xor .u64 (IntKind.u64.wrap (IntKind.u64.wrap n*2)) (IntKind.u64.wrap (n / 9223372036854775808))=((zz n:Nat):Int):=by
 unfold in64 at h
 by_cases hn:n<0
 ·have e1:IntKind.u64.wrap (IntKind.u64.wrap n*2)=(((2*n+18446744073709551616).toNat:Nat):Int):=by rw [IntKind.wrap_u64,IntKind.wrap_u64];omega
  have e2:IntKind.u64.wrap (n / 9223372036854775808)=((18446744073709551615:Nat):Int):=by rw [IntKind.wrap_u64];omega
  rw [e1,e2,bits_xor_u64_nat _ _ (by omega) (by omega),xor_ones (by omega)]
  unfold zz;rw [if_pos hn];omega
 ·have e1:IntKind.u64.wrap (IntKind.u64.wrap n*2)=(((2*n).toNat:Nat):Int):=by rw [IntKind.wrap_u64,IntKind.wrap_u64];omega
  have e2:IntKind.u64.wrap (n / 9223372036854775808)=((0:Nat):Int):=by rw [IntKind.wrap_u64];omega
  rw [e1,e2,bits_xor_u64_nat _ _ (by omega) (by omega),Nat.xor_zero]
  unfold zz;rw [if_neg hn]
theorem PutSigned {n:Int} (h:in64 n) (w:World):Calls prog 137 #[.int .i64 n] w fun e w'=>e=.returned (.string (ks (vb (zz n))))∧Below w.heap.size w w':=by
 have HP:=Lib.hid (put (zz_lt h) w)
 have hz:=zz_bits h
 clear h
 generalize zz n=Z at *
 go_enter func137,ntmps137
 go_wp2_with fail
 refine HP.out.mono ?_
 rintro e w1 ⟨rfl,hb1⟩
 have HB1:=Lib.hid hb1
 clear hb1
 go_wp2_with fail
 go_ret
 exact ⟨rfl,HB1.out⟩
theorem digits {u:Nat} (hu:u<18446744073709551616) (w:World):Calls prog 138 #[.int .u64 (u:Int)] w fun e w'=>e=.returned (.string (ks (vb u)))∧Below w.heap.size w w':=by
 have HB:=Lib.hid (Below.refl w.heap.size w)
 have HU:=Lib.hid (vb_len10 hu)
 generalize hv:vb u=V at *
 have HV:=Lib.hid hv
 clear hv
 go_enter func138,ntmps138
 go_wp2_with fail
 go_loopg [0,3] u (fun gk uv v wr=>∃ (m:Nat) (B:List UInt8),uv=.int .u64 (m:Int)∧m<18446744073709551616∧gk=m∧V=B++vb m∧v=.string (ks B)∧Below w.heap.size w wr)
 case atStart=>exact ⟨u,[],rfl,hu,rfl,HV.out.symm,rfl,HB.out⟩
 case round=>
  obtain ⟨m,B,rfl,hm,hg,hV,rfl,hbel⟩:=hrel
  have HM:=Lib.hid hm;have HG:=Lib.hid hg;have HVm:=Lib.hid hV;have HO:=Lib.hid hbel
  have hlen:B.length≤10:=by have:=HU.out;rw [hV,List.length_append] at this;omega
  have hs1:=ks_size B
  have m0:(0:Int)≤(m:Int):=by omega
  have m1:(m:Int)<18446744073709551616:=by omega
  clear hg hV hbel HU hm
  by_cases hlt:m<128
  ·have hq:(m:Int) / 128=0:=by omega
   have HVE:Hid (V=B++ [UInt8.ofNat m]):=by show _=_;rw [HVm.out,vb_lt hlt]
   have hbt:=byte_lt hlt
   have hl1:(m:Int)<128:=by omega
   have hl2:(m:Int) % 128=(m:Int):=by omega
   have hl2':(m:Int) % 256=(m:Int):=by omega
   clear hlt
   have kc:=conv_one wr (UInt8.ofNat m)
   have hs2:=ks_size [UInt8.ofNat m]
   have HA:=Lib.hid (ks_app B [UInt8.ofNat m])
   rw [show bc (UInt8.ofNat m)=.int .u8 (m:Int) by show Value.int .u8 _=_;rw [←hbt,hl2']] at kc
   generalize hX:ks [UInt8.ofNat m]=X at *
   clear hbt hX
   go_wp2_with (first| (refine wpList_byte rfl (.tmp 13) rfl _ rfl ?_))
   go_ret
   exact ⟨by rw [HVE.out,←HA.out];rfl,HO.out.alloc (HO.out.size) _⟩
  ·have hq0:((m / 128:Nat):Int)=(m:Int) / 128:=by omega
   have hq2:(0:Int)≤((m / 128:Nat):Int):=by omega
   have hq3:(((m / 128:Nat):Int)==0)=false:=by simp;omega
   have hor:=or128 m
   have kc:=conv_one wr (UInt8.ofNat (m % 128+128))
   have HVE:Hid (V=(B++ [UInt8.ofNat (m % 128+128)])++vb (m / 128)):=by show _=_;rw [HVm.out,vb_ge hlt,List.append_assoc];rfl
   have hs2:=ks_size [UInt8.ofNat (m % 128+128)]
   have HA:=Lib.hid (ks_app B [UInt8.ofNat (m % 128+128)])
   have hb8:(m:Int) % 128+128=(((UInt8.ofNat (m % 128+128)).toNat:Nat):Int):=by rw [UInt8.toNat_ofNat'];omega
   rw [show bc (UInt8.ofNat (m % 128+128))=.int .u8 ((m:Int) % 128+128) by show Value.int .u8 _=_;rw [←hb8]] at kc
   have HLt:=Lib.hid hlt
   clear hlt hor
   generalize hX:ks [UInt8.ofNat (m % 128+128)]=X at *
   have HX:=Lib.hid hX
   clear hX hb8
   generalize hQ:m / 128=Q at *
   have HQ:=Lib.hid hQ
   have hq:=hq0.symm
   clear hQ hq0
   go_wp2_with (first| (refine wpList_byte rfl (.tmp 19) rfl _ rfl ?_))
   go_roundg Q
   case rel=>exact ⟨Q,_,rfl,by have:=HM.out;have:=HQ.out;omega,rfl,HVE.out,by rw [←HA.out],HO.out.alloc HO.out.size _⟩
   case measure=>have:=HG.out;have:=HLt.out;have:=HQ.out;omega
theorem RefPut {n:Int} (h:in64 n) (w:World):Calls prog 133 #[.int .i64 n] w fun e w'=>e=.returned (.string (ks (nb n)))∧Below w.heap.size w w':=by
 by_cases hn:n<0
 ·have HE:Hid (ks (nb n)=ByteArray.empty):=by show _=_;unfold nb;rw [if_pos hn];rfl
  have HB:=Lib.hid (Below.refl w.heap.size w)
  have t1:decide (n<0)=true:=by simpa using hn
  clear h hn
  go_enter func133,ntmps133
  go_wp2_with fail
  go_ret
  exact ⟨by rw [HE.out];rfl,HB.out⟩
 ·have t1:decide (n<0)=false:=by simpa using hn
  obtain ⟨m,rfl⟩:=Int.eq_ofNat_of_zero_le (show 0≤n by omega)
  have hm:m<18446744073709551616:=by unfold in64 at h;omega
  have HE:Hid (nb (m:Int)=vb m):=by show _=_;rw [nb_ge (by omega)];rfl
  have HP:=Lib.hid (digits hm w)
  have m0:(0:Int)≤(m:Int):=by omega
  have m1:(m:Int)<18446744073709551616:=by omega
  clear h hn hm
  go_enter func133,ntmps133
  go_wp2_with fail
  refine HP.out.mono ?_
  rintro e w1 ⟨rfl,hb1⟩
  have HB1:=Lib.hid hb1
  clear hb1
  go_wp2_with fail
  go_ret
  exact ⟨by rw [HE.out];rfl,HB1.out⟩
theorem twice {n:Int} (h:in64 n) (w:World):Calls prog 139 #[.int .i64 n] w fun e w'=>e=.returned (.int .u64 ((zz n:Nat):Int))∧w=w':=by
 unfold in64 at h
 obtain ⟨h1,h2⟩:=h
 by_cases hn:n<0
 ·have HE:Hid (-(n+1)*2+1=((zz n:Nat):Int)):=by show _=_;unfold zz;rw [if_pos hn];omega
  have t1:decide (0≤n)=false:=by simp;omega
  go_enter func139,ntmps139
  go_wp2_with fail
  go_ret
  exact ⟨congrArg (fun z=>Ending.returned (.int .u64 z)) (by rw [←HE.out];omega),rfl⟩
 ·have HE:Hid (2*n=((zz n:Nat):Int)):=by show _=_;unfold zz;rw [if_neg hn];omega
  have t1:decide (0≤n)=true:=by simp;omega
  have n0:0≤n:=by omega
  go_enter func139,ntmps139
  go_wp2_with fail
  go_ret
  exact ⟨congrArg (fun z=>Ending.returned (.int .u64 z)) (by rw [←HE.out]),rfl⟩
theorem RefPutSigned {n:Int} (h:in64 n) (w:World):Calls prog 134 #[.int .i64 n] w fun e w'=>e=.returned (.string (ks (vb (zz n))))∧Below w.heap.size w w':=by
 have H1:=Lib.hid (twice h w)
 have H2:=Lib.hid (digits (zz_lt h) w)
 clear h
 go_enter func134,ntmps134
 go_wp2_with fail
 refine H1.out.mono ?_
 rintro e w1 ⟨rfl,rfl⟩
 go_wp2_with fail
 refine H2.out.mono ?_
 rintro e w1 ⟨rfl,hb1⟩
 have HB1:=Lib.hid hb1
 clear hb1
 go_wp2_with fail
 go_ret
 exact ⟨rfl,HB1.out⟩
end Vari
end Go.Proofs.YtdpngmgaomghoaaGreatDoor
