/- Views of operations: Get, Quantile; views that are nil; whether records may be. -/
import Derived.Test.YtdpngmgaomghoaaGreatOpsA
import Derived.Test.YtdpngmgaomghoaaGreatSli
namespace Go.Proofs.YtdpngmgaomghoaaGreat
open Tryz
set_option maxRecDepth 100000
open Go.RowKit
namespace Ops
open BagP HistP OpsP Hist KeyP PackP SetP SetW SetF Sli Name Pack
attribute [local go_sem] Eng.ev Eng.getO_cons Eng.getO_nil
theorem results_rs {P:Program} {fn:Func} {p q:Tmp} {ty:TypeId} (h:fn.results= #[.cell p ty,.tmp q]) (tmps:Array Value) (w:World) (g:Nat) (t:TypeId) (cs:Array Value) (u:Value) (d:TypeDesc)
  (hp:tmps.getD p undef=.pointer (some ⟨g,0,none⟩)) (hq:tmps.getD q undef=u) (hg:w.heap[g]? =some (.cells cs t (0,0)))
  (hu:P.underlying ty=some d) (hd:(match d with| .struct _| .array _ _=>true|_=>false)=true) (hi:(P.info? ty).map (·.size)=some cs.size):
  (results fn tmps).run P w=.ok (.tuple #[.agg cs,u]) w:=by
 have hp':tmps[p]?.getD undef=.pointer (some ⟨g,0,none⟩):=by simpa using hp
 have hq':tmps[q]?.getD undef=u:=by simpa using hq
 simp [results,h,hp',hq',asAddr,run_loadVar_row w g t ty cs (0,0) d hg hu hd hi]
section
variable {B:Nat} {M:List Nat} {E:Es}
theorem Get_none (s o:ByteArray) (w:World) (H:OV w B M E) (hl:s.size+o.size≤1000000) (hg:getL (key (s,o)) E=none):
  Calls prog 33 #[.pointer (some ⟨B,0,none⟩),.string s,.string o] w fun e w'=>e=.returned (.tuple #[.agg opZ,.bool false])∧Fr (fun _=>False) w w':=by
 have f1:=Fr.alloc (fun _=>False) w (.cells opZ TO)
 have HH:=Lib.hid (hist_ B M E s o _ (H.fr f1 (fun _ _ h=>h)) hl)
 rw [ptr_none hg] at HH
 have HZ:=Lib.hid (Bk.new w opZ TO)
 have HF:=Lib.hid f1
 clear H f1 hg
 go_enter func33,ntmps33
 go_wp2_with fail
 refine HH.out.mono ?_
 rintro e w1 ⟨rfl,n,rfl⟩
 have HZ2:=Lib.hid (HZ.out.fr (Fr.drewN (fun _=>False) _ n) (fun _ _ h=>h));have HF2:=Lib.hid (HF.out.trans (Fr.drewN (fun _=>False) _ n) (fun _ _ h=>h) (fun _ _ h=>h))
 generalize (w.alloc (.cells opZ TO)).drewN n=w1 at *
 have c0:=HZ2.out.cell 0;have c1:=HZ2.out.cell 1;have c2:=HZ2.out.cell 2;have c3:=HZ2.out.cell 3;have c4:=HZ2.out.cell 4;have c5:=HZ2.out.cell 5
 have g0:=HZ2.out.free 0;have g1:=HZ2.out.free 1;have g2:=HZ2.out.free 2;have g3:=HZ2.out.free 3;have g4:=HZ2.out.free 4;have g5:=HZ2.out.free 5
 simp only [List.getElem?_toArray,List.getElem?_cons_zero,List.getElem?_cons_succ] at c0 c1 c2 c3 c4 c5
 go_wp2_with fail
 exact bodyPost_ret (results_rs (p:=6) (q:=7) rfl _ _ w.heap.size TO _ _ _ rfl rfl (set6_bk HZ2.out _ _ _ _ _ _) underlying66 rfl (by kernel_rfl)) rfl ⟨rfl,Fr.new HF2.out (set6_fr _ _ _ _ _ _ _ _) (Nat.le_refl _)⟩
theorem Get_some (s o:ByteArray) (w:World) (H:OV w B M E) (hv:OpsP.Vok (vL E)) (hl:s.size+o.size≤1000000) {b:Bx} (hg:getL (key (s,o)) E=some b):
  Calls prog 33 #[.pointer (some ⟨B,0,none⟩),.string s,.string o] w fun e w'=>∃A c,e=.returned (.tuple #[.agg (opc (s,o) b.x A c).toArray,.bool true])∧Sl w' 2 A b.x.1.length c (b.x.1.flatMap Bag.pc)∧(∀a,A=some a→w.heap.size≤a.block∧a.block<w'.heap.size)∧Fr (fun _=>False) w w':=by
 have f1:=Fr.alloc (fun _=>False) w (.cells opZ TO)
 have H1:=H.fr f1 (fun _ _ h=>h)
 have HH:=Lib.hid (hist_ B M E s o _ H1 hl)
 rw [ptr_some hg] at HH
 have HK:=Lib.hid (fun W=>key_ s o W hl)
 have HZ:=Lib.hid (Bk.new w opZ TO)
 have HF:=Lib.hid f1
 have hm:=getL_mem hg
 have HBx:=Lib.hid (H1.h _ hm)
 have hk:=hv.key (key (s,o),b.v) (List.mem_map.2 ⟨_,hm,rfl⟩)
 have hw:=hv.wf (key (s,o),b.v) (List.mem_map.2 ⟨_,hm,rfl⟩)
 have hn:b.n=(s,o):=Vok.nm hv hg
 have HO:=fun W (h:HB W b.b b.x b.F)=>Lib.hid (oper (s,o) (by have:=hk.2.1;dsimp only at this;rwa [hn] at this) hl b.b b.x b.F W h hw.1)
 have hlen:=hw.1.len
 clear H H1 f1 hg hv hm hk hw hn
 obtain ⟨bn,bx,bb,bF⟩:=b
 dsimp only at HO HBx HH hlen ⊢
 go_enter func33,ntmps33
 go_wp2_with fail
 refine HH.out.mono ?_
 rintro e w1 ⟨rfl,n,rfl⟩
 have HZ2:=Lib.hid (HZ.out.fr (Fr.drewN (fun _=>False) _ n) (fun _ _ h=>h));have HF2:=Lib.hid (HF.out.trans (Fr.drewN (fun _=>False) _ n) (fun _ _ h=>h) (fun _ _ h=>h));have HB2:=Lib.hid (HBx.out.fr (Fr.drewN (fun _=>False) _ n) (fun _ _ h=>h))
 generalize (w.alloc (.cells opZ TO)).drewN n=w1 at *
 clear HZ HF HBx HH
 go_wp2_with fail
 refine (HK.out _).mono ?_
 rintro e w2 ⟨rfl,rfl⟩
 go_wp2_with fail
 refine (HO _ HB2.out).out.mono ?_
 rintro e w3 ⟨A,c,rfl,hs,ha,hf⟩
 have HZ3:=Lib.hid (HZ2.out.fr hf (fun _ _ h=>h))
 have hlt:w.heap.size<w2.heap.size:=lt_of_heap HZ2.out
 have HF3:=Lib.hid (HF2.out.trans hf (fun _ _ h=>h) (fun _ _ h=>h))
 have HS3:=Lib.hid hs;have HA:=Lib.hid ha
 clear hs ha hf HZ2 HF2 HB2
 have c0:=HZ3.out.cell 0;have c1:=HZ3.out.cell 1;have c2:=HZ3.out.cell 2;have c3:=HZ3.out.cell 3;have c4:=HZ3.out.cell 4;have c5:=HZ3.out.cell 5
 have g0:=HZ3.out.free 0;have g1:=HZ3.out.free 1;have g2:=HZ3.out.free 2;have g3:=HZ3.out.free 3;have g4:=HZ3.out.free 4;have g5:=HZ3.out.free 5
 simp only [List.getElem?_toArray,List.getElem?_cons_zero,List.getElem?_cons_succ] at c0 c1 c2 c3 c4 c5
 go_wp2_with fail
 exact bodyPost_ret (results_rs (p:=6) (q:=7) rfl _ _ w.heap.size TO _ _ _ rfl rfl (set6_bk HZ3.out _ _ _ _ _ _) underlying66 rfl (by kernel_rfl)) rfl ⟨A,c,rfl,HS3.out.fr (set6_fr _ _ _ _ _ _ _ _) (fun a ha e=>by have:=(HA.out a ha).1;omega),fun a ha=>⟨by have:=(HA.out a ha).1;omega,Nat.lt_of_lt_of_le (HA.out a ha).2 (set6_fr _ _ _ _ _ _ _ _).size⟩,Fr.new HF3.out (set6_fr _ _ _ _ _ _ _ _) (Nat.le_refl _)⟩
theorem Quantile (s o:ByteArray) (p:Int) (w:World) (H:OV w B M E) (hl:s.size+o.size≤1000000):
  Calls prog 35 #[.pointer (some ⟨B,0,none⟩),.string s,.string o,.int .i64 p] w fun e w'=>e=.returned (Bucket.bv (quant (hget (s,o) (vL E)) p))∧Fr (fun _=>False) w w':=by
 have HH:=Lib.hid (hist_ B M E s o w H hl)
 have HQ:Hid (∀n,Calls prog 100 #[.pointer (ptr E (s,o)),.int .i64 p] (w.drewN n) fun e w'=>e=.returned (Bucket.bv (quant (hget (s,o) (vL E)) p))∧Fr (fun _=>False) (w.drewN n) w'):=fun n=>by
  cases hg:getL (key (s,o)) E with
  |none=>
   rw [ptr_none hg,hget_n hg]
   exact (Hist.Quantile_none p _).mono (fun _ _ q=>⟨q.1,by rw [←q.2];exact Fr.refl _ _⟩)
  |some b=>
   rw [ptr_some hg,hget_e hg]
   exact Hist.Quantile b.b p b.x b.F _ ((H.h _ (getL_mem hg)).fr (Fr.drewN (fun _=>False) w n) (fun _ _ h=>h))
 clear H
 generalize ptr E (s,o)=q at *
 generalize quant (hget (s,o) (vL E)) p=r at *
 obtain ⟨r1,r2,r3⟩:=r
 go_enter func35,ntmps35
 go_wp2_with fail
 refine HH.out.mono ?_
 rintro e w1 ⟨rfl,n,rfl⟩
 go_wp2_with fail
 refine (HQ.out n).mono ?_
 rintro e w2 ⟨rfl,hf⟩
 have HF:=Lib.hid ((Fr.drewN (fun _=>False) w n).trans hf (T:=fun _=>False) (fun _ _ h=>h) (fun _ _ h=>h))
 clear hf HQ HH
 go_wp2_with fail
 go_ret3
 exact ⟨rfl,HF.out⟩
def mays (L:List Sn):Bool:= !(L.any (fun x=>mayN x != 0))
end
theorem may1 (x:Sn) (w:World) (hx:x.ok):Calls prog 148 #[x.v] w fun e w'=>e=.returned (.bool (mayN x != 0))∧Fr (fun _=>False) w w':=by
 have hf:=Fr.alloc (fun _=>False) w (.cells x.arr TSn)
 have HX:=Lib.hid (At.box (Bk.new w x.arr TSn))
 have HM:=Lib.hid (May_ x hx (w.alloc (.cells x.arr TSn)))
 generalize mayN x=m at *
 have HF:=Lib.hid hf
 clear hf
 have xc0:(w.alloc (.cells x.arr TSn)).cell? ⟨w.heap.size,0,none⟩=some (.int .i64 x.t):=HX.out 0 _ rfl
 have xc1:(w.alloc (.cells x.arr TSn)).cell? ⟨w.heap.size,1,none⟩=some (.int .i64 x.i):=HX.out 1 _ rfl
 have xc2:(w.alloc (.cells x.arr TSn)).cell? ⟨w.heap.size,2,none⟩=some (.int .i64 x.p):=HX.out 2 _ rfl
 have xc3:(w.alloc (.cells x.arr TSn)).cell? ⟨w.heap.size,3,none⟩=some (.int .i64 x.r):=HX.out 3 _ rfl
 have xc4:(w.alloc (.cells x.arr TSn)).cell? ⟨w.heap.size,4,none⟩=some (.string x.s):=HX.out 4 _ rfl
 have xc5:(w.alloc (.cells x.arr TSn)).cell? ⟨w.heap.size,5,none⟩=some (.string x.o):=HX.out 5 _ rfl
 have xc6:(w.alloc (.cells x.arr TSn)).cell? ⟨w.heap.size,6,none⟩=some (.int .i64 x.b):=HX.out 6 _ rfl
 have xc7:(w.alloc (.cells x.arr TSn)).cell? ⟨w.heap.size,7,none⟩=some (.int .i64 x.d):=HX.out 7 _ rfl
 have xc8:(w.alloc (.cells x.arr TSn)).cell? ⟨w.heap.size,8,none⟩=some (.bool x.g):=HX.out 8 _ rfl
 go_enter func148,ntmps148
 go_wp2_with fail
 refine HM.out.mono ?_
 rintro e w2 ⟨rfl,hf⟩
 have HF2:=Lib.hid (HF.out.trans hf (T:=fun _=>False) (fun _ _ h=>h) (fun _ _ h=>h))
 clear hf HM xc0 xc1 xc2 xc3 xc4 xc5 xc6 xc7 xc8
 go_wp2_with fail
 go_ret
 exact ⟨rfl,HF2.out⟩
theorem may_ (A:Option Addr) (c:Nat) (L:List Sn) (w:World) (hL:Ls w A c L):Calls prog 88 #[.slice A L.length c] w fun e w'=>e=.returned (.bool (mays L))∧Fr (fun _=>False) w w':=by
 have HC:=Lib.hid (ContainsFunc A c 148 #[] (fun x=>mayN x != 0) L w (enters_of func148 (by kernel_rfl) rfl) hL.s (fun W hW x hx=>may1 x W (hL.ok x hx)))
 unfold mays
 clear hL
 generalize L.any (fun x=>mayN x != 0)=b at *
 go_enter func88,ntmps88
 go_wp2_with fail
 refine HC.out.mono ?_
 rintro e w2 ⟨rfl,hf⟩
 have HF:=Lib.hid hf
 clear hf HC
 go_wp2_with fail
 go_ret
 exact ⟨rfl,HF.out⟩
end Ops
end Go.Proofs.YtdpngmgaomghoaaGreat
