/- Sums of durations, and the document's: the walks. -/
import Derived.Test.YtdpngmgaomghoaaGreatSats
import Derived.Test.YtdpngmgaomghoaaGreatRef01
import Derived.Deep.CutBlock
import Derived.StillTailTactics
namespace Go.Proofs.YtdpngmgaomghoaaGreat
open Tryz
set_option maxRecDepth 100000
open Go.RowKit
theorem Fr.set_new {w w1:World} (hf:Fr (fun _=>False) w w1) {a:Addr} (h:w.heap.size≤a.block) (u:Value):Fr (fun _=>False) w (w1.setCell a u):=
 hf.trans (Fr.setCell w1 a u (S:=(· =a.block)) rfl) (fun _ _ h=>h) (fun i hi e=>by have e:i=a.block:=e;omega)
theorem Bk.other {w:World} {B:Nat} {c:Array Value} {t:TypeId} (h:Bk w B c t) {a:Addr} (hne:a.block≠B) (u:Value):Bk (w.setCell a u) B c t:=
 h.fr (Fr.setCell w a u (S:=(· =a.block)) rfl) (fun b hb=>by simp at hb;subst hb;exact fun e=>hne e.symm)
theorem Fr.to {w w1 w2:World} (h:Fr (fun _=>False) w w1) (k:Fr (fun _=>False) w1 w2):Fr (fun _=>False) w w2:=h.trans k (fun _ _ h=>h) (fun _ _ h=>h)
theorem Bk.frF {w w':World} {B:Nat} {c:Array Value} {t:TypeId} (h:Bk w B c t) (hf:Fr (fun _=>False) w w'):Bk w' B c t:=h.fr hf (fun _ _ h=>h)
namespace Wide
open HistP
abbrev TS:TypeId:=63
abbrev sv (s:Int × Int):Value:=.agg #[.int .i64 s.1,.int .i64 s.2]
abbrev PostS (s:Int × Int) (w:World) (e:Ending) (w':World):Prop:=e=.returned (sv s)∧Fr (fun _=>False) w w'
theorem May (s:Int × Int) (hs:HistP.May s) (w:World):Calls prog 302 #[sv s] w fun e w'=>e=.returned (.bool true)∧Fr (fun _=>False) w w':=by
 obtain ⟨h,l⟩:=s
 obtain ⟨h0,h1,h2,h3⟩:=hs
 dsimp only at *
 go_enter func302,ntmps302
 go_wp2
 go_ret
 exact ⟨rfl,Fr.alloc _ _ _⟩
theorem right (s:Int × Int) (hs:HistP.May s) (w:World):Calls prog 266 #[sv s] w (PostS s w):=by
 have HM:=fun w=>Lib.hid (May s hs w)
 obtain ⟨h,l⟩:=s
 clear hs
 go_enter func266,ntmps266
 go_wp2_with fail
 refine (HM _).out.mono ?_
 rintro e w1 ⟨rfl,hf⟩
 have b1:Bk w1 w.heap.size #[.int .i64 h,.int .i64 l] TS:=((Bk.new w _ _).frF (Fr.alloc _ _ _)).frF hf
 have b2:Bk w1 (w.heap.size+1) #[.int .i64 0,.int .i64 0] TS:=by
  have:=(Bk.new (w.alloc (.cells #[.int .i64 h,.int .i64 l] TS)) #[.int .i64 0,.int .i64 0] TS).frF hf
  rwa [World.size_alloc] at this
 have c0:w1.cell? ⟨w.heap.size,0,none⟩=some (.int .i64 h):=b1.cell 0
 have c1:w1.cell? ⟨w.heap.size,1,none⟩=some (.int .i64 l):=b1.cell 1
 have d0:w1.cell? ⟨w.heap.size+1,0,none⟩=some (.int .i64 0):=b2.cell 0
 have d1:w1.cell? ⟨w.heap.size+1,1,none⟩=some (.int .i64 0):=b2.cell 1
 have f0:=b2.free 0
 have f1:=b2.free 1
 have HF:=Lib.hid (((Fr.alloc _ _ _).to (Fr.alloc _ _ _)).to hf);have HB2:=Lib.hid b2
 clear hf b1 b2 HM
 go_wp2_with fail
 exact bodyPost_ret (results_cell_row rfl _ _ (w.heap.size+1) TS _ (0,0) _ rfl ((HB2.out.set 0 _).set 1 _) underlying63 rfl (by kernel_rfl)) rfl ⟨rfl,(HF.out.set_new (by simp) _).set_new (by simp) _⟩
theorem duration (d:Int) (w:World):Calls prog 267 #[.int .i64 d] w fun e w'=>e=.returned (.int .i64 (cl d))∧w=w':=by
 have HC:=Lib.hid (Sat.Clamp d 0 4611686018427387904 w)
 have HE:=Lib.hid (show clamp d 0 4611686018427387904=cl d from rfl)
 generalize clamp d 0 4611686018427387904=x at *
 go_enter func267,ntmps267
 go_wp2_with fail
 refine HC.out.mono ?_
 rintro e w1 ⟨rfl,rfl⟩
 go_wp2_with fail
 go_ret
 exact ⟨by rw [←HE.out];rfl,rfl⟩
theorem greatest (w:World):Calls prog 268 #[] w (PostS (4294967296,4611686018427387903) w):=by
 go_enter func268,ntmps268
 go_wp2
 exact bodyPost_ret (results_cell_row rfl _ _ w.heap.size TS _ (0,0) _ rfl (heap_new _ _) underlying63 rfl (by kernel_rfl)) rfl ⟨rfl,Fr.alloc _ _ _⟩
theorem two {w w1:World} {a b c d:Value} (hf:Fr (fun _=>False) ((w.alloc (.cells #[a,b] TS)).alloc (.cells #[c,d] TS)) w1):Bk w1 w.heap.size #[a,b] TS∧Bk w1 (w.heap.size+1) #[c,d] TS∧Fr (fun _=>False) w w1:=by
 refine ⟨((Bk.new w _ _).frF (Fr.alloc _ _ _)).frF hf,?_,((Fr.alloc _ _ _).to (Fr.alloc _ _ _)).to hf⟩
 have:=(Bk.new (w.alloc (.cells #[a,b] TS)) #[c,d] TS).frF hf
 rwa [World.size_alloc] at this
theorem Bk.cells {w:World} {B:Nat} {a b:Value} {t:TypeId} (h:Bk w B #[a,b] t):w.cell? ⟨B,0,none⟩=some a∧w.cell? ⟨B,1,none⟩=some b∧w.frozen? ⟨B,0,none⟩=false∧w.frozen? ⟨B,1,none⟩=false:=
 ⟨h.cell 0,h.cell 1,h.free 0,h.free 1⟩
theorem Add (s:Int × Int) (d:Int) (hs:HistP.May s) (w:World):Calls prog 221 #[sv s,.int .i64 d] w (PostS (addS s d) w):=by
 have HR:=fun w=>Lib.hid (right s hs w)
 obtain ⟨h,l⟩:=s
 obtain ⟨h0,h1,h2,h3⟩:=hs
 dsimp only at h0 h1 h2 h3
 have hc:=cl_rng d
 have HDu:Hid (∀w,Calls prog 267 #[.int .i64 d] w fun e w'=>e=.returned (.int .i64 (cl d))∧w'=w):=fun w=>(duration d w).mono (fun _ _ h=>⟨h.1,h.2.symm⟩)
 have HE:Hid (addS (h,l) d=if 4294967296<h+(l+cl d) / 4611686018427387904 then (4294967296,4611686018427387903) else (h+(l+cl d) / 4611686018427387904,(l+cl d) % 4611686018427387904)):=rfl
 generalize cl d=x at *
 go_enter func221,ntmps221
 go_wp2_with fail
 refine (HR _).out.mono ?_
 rintro e w1 ⟨rfl,hf⟩
 obtain ⟨b1,b2,hf⟩:=two hf
 obtain ⟨c0,c1,f0,f1⟩:=Bk.cells b1
 have HB1:=Lib.hid ((b1.set 0 (.int .i64 h)).set 1 (.int .i64 l));have HB2:=Lib.hid ((b2.other (a:=⟨w.heap.size,0,none⟩) (by simp) (.int .i64 h)).other (a:=⟨w.heap.size,1,none⟩) (by simp) (.int .i64 l))
 have HF:=Lib.hid ((hf.set_new (a:=⟨w.heap.size,0,none⟩) (Nat.le_refl _) (.int .i64 h)).set_new (a:=⟨w.heap.size,1,none⟩) (Nat.le_refl _) (.int .i64 l))
 clear hf b1 b2 HR
 go_upto_region 2 with (fail)
 clear c0 c1 f0 f1
 generalize (w1.setCell ⟨w.heap.size,0,none⟩ (.int .i64 h)).setCell ⟨w.heap.size,1,none⟩ (.int .i64 l)=w2 at *
 obtain ⟨c0,c1,f0,f1⟩:=Bk.cells HB1.out
 obtain ⟨d0,d1,g0,g1⟩:=Bk.cells HB2.out
 go_quiet (first| (go_at_call 267;refine Calls.quiet_of_same (HDu.out _)))
 have hm:0≤(l+x) / 4611686018427387904∧(l+x) / 4611686018427387904≤1:=by omega
 have HB3:=Lib.hid (((HB1.out.frF (Fr.drewN _ w2 nq)).set 0 (.int .i64 (h+(l+x) / 4611686018427387904))).set 1 (.int .i64 ((l+x) % 4611686018427387904)))
 have HB4:=Lib.hid (((HB2.out.frF (Fr.drewN _ w2 nq)).other (a:=⟨w.heap.size,0,none⟩) (by simp) (.int .i64 (h+(l+x) / 4611686018427387904))).other (a:=⟨w.heap.size,1,none⟩) (by simp) (.int .i64 ((l+x) % 4611686018427387904)))
 have HF4:=Lib.hid (((HF.out.to (Fr.drewN _ w2 nq)).set_new (a:=⟨w.heap.size,0,none⟩) (Nat.le_refl _) (.int .i64 (h+(l+x) / 4611686018427387904))).set_new (a:=⟨w.heap.size,1,none⟩) (Nat.le_refl _) (.int .i64 ((l+x) % 4611686018427387904)))
 go_upto_region 5 with (fail)
 generalize ((w2.drewN nq).setCell ⟨w.heap.size,0,none⟩ (.int .i64 (h+(l+x) / 4611686018427387904))).setCell ⟨w.heap.size,1,none⟩ (.int .i64 ((l+x) % 4611686018427387904))=w3 at *
 clear c0 c1 f0 f1 d0 d1 g0 g1
 obtain ⟨c0,c1,f0,f1⟩:=Bk.cells HB3.out
 obtain ⟨d0,d1,g0,g1⟩:=Bk.cells HB4.out
 by_cases hg:4294967296<h+(l+x) / 4611686018427387904
 ·rw [if_pos hg] at HE
  go_wp2_with fail
  refine (greatest _).mono ?_
  rintro e w4 ⟨rfl,hf4⟩
  have HB5:=Lib.hid (HB4.out.frF hf4);have HF5:=Lib.hid (HF4.out.to hf4)
  clear c0 c1 f0 f1 d0 d1 g0 g1 hf4
  obtain ⟨d0,d1,g0,g1⟩:=Bk.cells HB5.out
  go_wp2_with fail
  exact bodyPost_ret (results_cell_row rfl _ _ (w.heap.size+1) TS _ (0,0) _ rfl ((HB5.out.set 0 _).set 1 _) underlying63 rfl (by kernel_rfl)) rfl ⟨by rw [HE.out];rfl,(HF5.out.set_new (by simp) _).set_new (by simp) _⟩
 ·rw [if_neg hg] at HE
  go_wp2_with fail
  exact bodyPost_ret (results_cell_row rfl _ _ (w.heap.size+1) TS _ (0,0) _ rfl ((HB4.out.set 0 _).set 1 _) underlying63 rfl (by kernel_rfl)) rfl ⟨by rw [HE.out];rfl,(HF4.out.set_new (by simp) _).set_new (by simp) _⟩
theorem Sub (s:Int × Int) (d:Int) (hs:HistP.May s) (w:World):Calls prog 262 #[sv s,.int .i64 d] w (PostS (subS s d) w):=by
 have HR:=fun w=>Lib.hid (right s hs w)
 obtain ⟨h,l⟩:=s
 obtain ⟨h0,h1,h2,h3⟩:=hs
 dsimp only at h0 h1 h2 h3
 have hc:=cl_rng d
 have HDu:Hid (∀w,Calls prog 267 #[.int .i64 d] w fun e w'=>e=.returned (.int .i64 (cl d))∧w'=w):=fun w=>(duration d w).mono (fun _ _ h=>⟨h.1,h.2.symm⟩)
 have HE:Hid (subS (h,l) d=if l-cl d<0 then (if h-1<0 then (0,0) else (h-1,l-cl d+4611686018427387904)) else (h,l-cl d)):=rfl
 generalize cl d=x at *
 go_enter func262,ntmps262
 go_wp2_with fail
 refine (HR _).out.mono ?_
 rintro e w1 ⟨rfl,hf⟩
 obtain ⟨b1,b2,hf⟩:=two hf
 obtain ⟨c0,c1,f0,f1⟩:=Bk.cells b1
 have HB1:=Lib.hid ((b1.set 0 (.int .i64 h)).set 1 (.int .i64 l));have HB2:=Lib.hid ((b2.other (a:=⟨w.heap.size,0,none⟩) (by simp) (.int .i64 h)).other (a:=⟨w.heap.size,1,none⟩) (by simp) (.int .i64 l))
 have HF:=Lib.hid ((hf.set_new (a:=⟨w.heap.size,0,none⟩) (Nat.le_refl _) (.int .i64 h)).set_new (a:=⟨w.heap.size,1,none⟩) (Nat.le_refl _) (.int .i64 l))
 clear hf b1 b2 HR
 go_upto_region 2 with (fail)
 clear c0 c1 f0 f1
 generalize (w1.setCell ⟨w.heap.size,0,none⟩ (.int .i64 h)).setCell ⟨w.heap.size,1,none⟩ (.int .i64 l)=w2 at *
 obtain ⟨c0,c1,f0,f1⟩:=Bk.cells HB1.out
 obtain ⟨d0,d1,g0,g1⟩:=Bk.cells HB2.out
 have hw:=IntWalk.i64_in (l-x) (by omega)
 go_region_with (first| (go_at_call 267;refine (HDu.out _).mono ?_;rintro e w4 ⟨rfl,rfl⟩))
 all_goals
  go_upto_region 3 with (fail)
  clear hw
  have HB3:=Lib.hid ((HB1.out.set 1 (.int .i64 (l-x))).frF (Fr.drew _ _));have HB4:=Lib.hid ((HB2.out.other (a:=⟨w.heap.size,1,none⟩) (by simp) (.int .i64 (l-x))).frF (Fr.drew _ _));have HF4:=Lib.hid ((HF.out.set_new (a:=⟨w.heap.size,1,none⟩) (Nat.le_refl _) (.int .i64 (l-x))).to (Fr.drew _ _))
  clear c0 c1 f0 f1 d0 d1 g0 g1 HB1 HB2 HF
  generalize (w2.setCell ⟨w.heap.size,1,none⟩ (.int .i64 (l-x))).drew=w3 at *
  obtain ⟨c0,c1,f0,f1⟩:=Bk.cells HB3.out
  obtain ⟨d0,d1,g0,g1⟩:=Bk.cells HB4.out
  by_cases hg:l-x<0
  ·rw [if_pos hg] at HE
   by_cases hk:h-1<0
   ·rw [if_pos hk] at HE
    go_wp2_with fail
    exact bodyPost_ret (results_cell_row rfl _ _ (w.heap.size+1) TS _ (0,0) _ rfl (by refine Bk.set (Bk.set (c:= #[.int .i64 0,.int .i64 0]) ?_ 0 _) 1 _;(repeat (refine Bk.other ?_ (by simp) _));exact HB4.out) underlying63 rfl (by kernel_rfl)) rfl ⟨by rw [HE.out];rfl,by (repeat (refine Fr.set_new ?_ (by simp) _));exact HF4.out⟩
   ·rw [if_neg hk] at HE
    go_wp2_with fail
    exact bodyPost_ret (results_cell_row rfl _ _ (w.heap.size+1) TS _ (0,0) _ rfl (by refine Bk.set (Bk.set (c:= #[.int .i64 0,.int .i64 0]) ?_ 0 _) 1 _;(repeat (refine Bk.other ?_ (by simp) _));exact HB4.out) underlying63 rfl (by kernel_rfl)) rfl ⟨by rw [HE.out];rfl,by (repeat (refine Fr.set_new ?_ (by simp) _));exact HF4.out⟩
  ·rw [if_neg hg] at HE
   go_wp2_with fail
   exact bodyPost_ret (results_cell_row rfl _ _ (w.heap.size+1) TS _ (0,0) _ rfl (by refine Bk.set (Bk.set (c:= #[.int .i64 0,.int .i64 0]) ?_ 0 _) 1 _;(repeat (refine Bk.other ?_ (by simp) _));exact HB4.out) underlying63 rfl (by kernel_rfl)) rfl ⟨by rw [HE.out];rfl,by (repeat (refine Fr.set_new ?_ (by simp) _));exact HF4.out⟩
end Wide
set_option maxRecDepth 100000
set_option maxHeartbeats 400000
namespace Wide
open HistP
attribute [local go_sem] Eng.ev Eng.getO_cons Eng.getO_nil
structure W2 (w0 w:World) (B1 B2:Nat) (a b:Int × Int):Prop where
 b1:Bk w B1 #[.int .i64 a.1,.int .i64 a.2] TS
 b2:Bk w B2 #[.int .i64 b.1,.int .i64 b.2] TS
 fr:Fr (fun _=>False) w0 w
 n1:w0.heap.size≤B1
 n2:w0.heap.size≤B2
 ne:B1≠B2
theorem W2.frF {w0 w w':World} {B1 B2:Nat} {a b:Int × Int} (h:W2 w0 w B1 B2 a b) (hf:Fr (fun _=>False) w w'):W2 w0 w' B1 B2 a b:=
 ⟨h.b1.frF hf,h.b2.frF hf,h.fr.to hf,h.n1,h.n2,h.ne⟩
theorem W2.set1 {w0 w:World} {B1 B2:Nat} {a b:Int × Int} (h:W2 w0 w B1 B2 a b) (c:Int × Int):W2 w0 ((w.setCell ⟨B1,0,none⟩ (.int .i64 c.1)).setCell ⟨B1,1,none⟩ (.int .i64 c.2)) B1 B2 c b:=
 ⟨(h.b1.set 0 _).set 1 _,(h.b2.other (a:=⟨B1,0,none⟩) h.ne _).other (a:=⟨B1,1,none⟩) h.ne _,(h.fr.set_new h.n1 _).set_new h.n1 _,h.n1,h.n2,h.ne⟩
theorem W2.set2 {w0 w:World} {B1 B2:Nat} {a b:Int × Int} (h:W2 w0 w B1 B2 a b) (c:Int × Int):W2 w0 ((w.setCell ⟨B2,0,none⟩ (.int .i64 c.1)).setCell ⟨B2,1,none⟩ (.int .i64 c.2)) B1 B2 a c:=
 ⟨(h.b1.other (a:=⟨B2,0,none⟩) (fun e=>h.ne e.symm) _).other (a:=⟨B2,1,none⟩) (fun e=>h.ne e.symm) _,(h.b2.set 0 _).set 1 _,(h.fr.set_new h.n2 _).set_new h.n2 _,h.n1,h.n2,h.ne⟩
theorem W2.start {w w1:World} {a b:Int × Int} (hf:Fr (fun _=>False) ((w.alloc (.cells #[.int .i64 a.1,.int .i64 a.2] TS)).alloc (.cells #[.int .i64 b.1,.int .i64 b.2] TS)) w1):W2 w w1 w.heap.size (w.heap.size+1) a b:=by
 obtain ⟨h1,h2,h3⟩:=two hf
 exact ⟨h1,h2,h3,Nat.le_refl _,by omega,by omega⟩
theorem W2.new (w:World) (a b:Int × Int):W2 w ((w.alloc (.cells #[.int .i64 a.1,.int .i64 a.2] TS)).alloc (.cells #[.int .i64 b.1,.int .i64 b.2] TS)) w.heap.size (w.heap.size+1) a b:=W2.start (Fr.refl _ _)
theorem l1 {ops:Array Oper} (hops:Eng.fnOps Tryz.f259 1=ops) (a0:Act) (Q:Exit→Act→World→Prop) (w0 w:World) (B1 B2:Nat) (h l u v:Int) (hst:W2 w0 w B1 B2 (h,l) (u,v)) (ha:HistP.May (h,l)) (hb:HistP.May (u,v))
  (hn:a0.tmps.size=28) (h_2:a0.tmps.getD 2 undef=.pointer (some ⟨B1,0,none⟩)) (h_3:a0.tmps.getD 3 undef=.pointer (some ⟨B2,0,none⟩))
  (hpost:∀ (x:Nat→Value) (w':World),W2 w0 w' B1 B2 (h,l) (u,v)→Q .normal (Eng.setAll a0 [5,6,7,8] x) w'):
  (Code.region 1 ops true).wp prog Q a0 w:=by
 simp only [Eng.fnOps,Eng.regOps,Tryz.f259,Option.bind_some,Option.getD_some,Nat.reduceEqDiff,↓reduceIte] at hops
 subst hops
 have hne:=hst.ne
 have hne2:=fun e=>hst.ne (Eq.symm e)
 have HSt:=Lib.hid (hst.frF (Fr.drew _ _))
 refine Eng.regionN [(0,true),(2,true),(1,false),(3,false),(4,false),(5,false)] (fun w'=>w'.cell? ⟨B1,0,none⟩=some (.int .i64 h)∧w'.cell? ⟨B1,1,none⟩=some (.int .i64 l)∧w'.cell? ⟨B2,0,none⟩=some (.int .i64 u)∧w'.cell? ⟨B2,1,none⟩=some (.int .i64 v)∧w'.frozen? ⟨B1,0,none⟩=false∧w'.frozen? ⟨B1,1,none⟩=false∧w'.frozen? ⟨B2,0,none⟩=false∧w'.frozen? ⟨B2,1,none⟩=false) (by kernel_rfl) 28 hn (by kernel_rfl) rfl (by kernel_rfl) (⟨HSt.out.b1.cell 0,HSt.out.b1.cell 1,HSt.out.b2.cell 0,HSt.out.b2.cell 1,HSt.out.b1.free 0,HSt.out.b1.free 1,HSt.out.b2.free 0,HSt.out.b2.free 1⟩) (fun a b ha hb=>?_)
 subst ha
 have hb2:b 2=.pointer (some ⟨B1,0,none⟩):=(hb 2).symm.trans h_2
 have hb3:b 3=.pointer (some ⟨B2,0,none⟩):=(hb 3).symm.trans h_3
 clear hb h_2 h_3
 have HP:=Lib.hid hpost;have HN:=Lib.hid hn
 clear hpost hn
 refine Eng.Sch.tk ?_
 refine Eng.Sch.tk ?_
 refine Eng.Sch.call rfl rfl (by decide) (by kernel_rfl) ?_ (right (h,l) ha _) ?_
 ·go_simp
 rintro e w2 ⟨rfl,hf⟩
 have HSt1:=Lib.hid (HSt.out.frF hf)
 clear hf
 refine ⟨_,rfl,⟨HSt1.out.b1.cell 0,HSt1.out.b1.cell 1,HSt1.out.b2.cell 0,HSt1.out.b2.cell 1,HSt1.out.b1.free 0,HSt1.out.b1.free 1,HSt1.out.b2.free 0,HSt1.out.b2.free 1⟩,?_⟩
 refine Eng.Sch.call rfl rfl (by decide) (by kernel_rfl) ?_ (right (u,v) hb _) ?_
 ·go_simp
 rintro e w3 ⟨rfl,hf⟩
 have HSt2:=Lib.hid (HSt1.out.frF hf)
 have hSS:w3.cell? ⟨B1,0,none⟩=some (.int .i64 h)∧w3.cell? ⟨B1,1,none⟩=some (.int .i64 l)∧w3.cell? ⟨B2,0,none⟩=some (.int .i64 u)∧w3.cell? ⟨B2,1,none⟩=some (.int .i64 v)∧w3.frozen? ⟨B1,0,none⟩=false∧w3.frozen? ⟨B1,1,none⟩=false∧w3.frozen? ⟨B2,0,none⟩=false∧w3.frozen? ⟨B2,1,none⟩=false:=⟨HSt2.out.b1.cell 0,HSt2.out.b1.cell 1,HSt2.out.b2.cell 0,HSt2.out.b2.cell 1,HSt2.out.b1.free 0,HSt2.out.b1.free 1,HSt2.out.b2.free 0,HSt2.out.b2.free 1⟩
 clear hf
 refine ⟨_,rfl,hSS,?_⟩
 have HSt3:=Lib.hid (HSt2.out.set1 (h,l))
 refine Eng.Sch.step0 rfl rfl (by kernel_rfl) (by go_simp;first|done|with_reducible rfl) (⟨HSt3.out.b1.cell 0,HSt3.out.b1.cell 1,HSt3.out.b2.cell 0,HSt3.out.b2.cell 1,HSt3.out.b1.free 0,HSt3.out.b1.free 1,HSt3.out.b2.free 0,HSt3.out.b2.free 1⟩) ?_
 have hSS:((w3.setCell ⟨B1,0,none⟩ (.int .i64 h)).setCell ⟨B1,1,none⟩ (.int .i64 l)).cell? ⟨B1,0,none⟩=some (.int .i64 h)∧((w3.setCell ⟨B1,0,none⟩ (.int .i64 h)).setCell ⟨B1,1,none⟩ (.int .i64 l)).cell? ⟨B1,1,none⟩=some (.int .i64 l)∧((w3.setCell ⟨B1,0,none⟩ (.int .i64 h)).setCell ⟨B1,1,none⟩ (.int .i64 l)).cell? ⟨B2,0,none⟩=some (.int .i64 u)∧((w3.setCell ⟨B1,0,none⟩ (.int .i64 h)).setCell ⟨B1,1,none⟩ (.int .i64 l)).cell? ⟨B2,1,none⟩=some (.int .i64 v)∧((w3.setCell ⟨B1,0,none⟩ (.int .i64 h)).setCell ⟨B1,1,none⟩ (.int .i64 l)).frozen? ⟨B1,0,none⟩=false∧((w3.setCell ⟨B1,0,none⟩ (.int .i64 h)).setCell ⟨B1,1,none⟩ (.int .i64 l)).frozen? ⟨B1,1,none⟩=false∧((w3.setCell ⟨B1,0,none⟩ (.int .i64 h)).setCell ⟨B1,1,none⟩ (.int .i64 l)).frozen? ⟨B2,0,none⟩=false∧((w3.setCell ⟨B1,0,none⟩ (.int .i64 h)).setCell ⟨B1,1,none⟩ (.int .i64 l)).frozen? ⟨B2,1,none⟩=false:=⟨HSt3.out.b1.cell 0,HSt3.out.b1.cell 1,HSt3.out.b2.cell 0,HSt3.out.b2.cell 1,HSt3.out.b1.free 0,HSt3.out.b1.free 1,HSt3.out.b2.free 0,HSt3.out.b2.free 1⟩
 have HSt4:=Lib.hid (HSt3.out.set2 (u,v))
 refine Eng.Sch.step0 rfl rfl (by kernel_rfl) (by go_simp;first|done|with_reducible rfl) (⟨HSt4.out.b1.cell 0,HSt4.out.b1.cell 1,HSt4.out.b2.cell 0,HSt4.out.b2.cell 1,HSt4.out.b1.free 0,HSt4.out.b1.free 1,HSt4.out.b2.free 0,HSt4.out.b2.free 1⟩) ?_
 have hSS:((((w3.setCell ⟨B1,0,none⟩ (.int .i64 h)).setCell ⟨B1,1,none⟩ (.int .i64 l)).setCell ⟨B2,0,none⟩ (.int .i64 u)).setCell ⟨B2,1,none⟩ (.int .i64 v)).cell? ⟨B1,0,none⟩=some (.int .i64 h)∧((((w3.setCell ⟨B1,0,none⟩ (.int .i64 h)).setCell ⟨B1,1,none⟩ (.int .i64 l)).setCell ⟨B2,0,none⟩ (.int .i64 u)).setCell ⟨B2,1,none⟩ (.int .i64 v)).cell? ⟨B1,1,none⟩=some (.int .i64 l)∧((((w3.setCell ⟨B1,0,none⟩ (.int .i64 h)).setCell ⟨B1,1,none⟩ (.int .i64 l)).setCell ⟨B2,0,none⟩ (.int .i64 u)).setCell ⟨B2,1,none⟩ (.int .i64 v)).cell? ⟨B2,0,none⟩=some (.int .i64 u)∧((((w3.setCell ⟨B1,0,none⟩ (.int .i64 h)).setCell ⟨B1,1,none⟩ (.int .i64 l)).setCell ⟨B2,0,none⟩ (.int .i64 u)).setCell ⟨B2,1,none⟩ (.int .i64 v)).cell? ⟨B2,1,none⟩=some (.int .i64 v)∧((((w3.setCell ⟨B1,0,none⟩ (.int .i64 h)).setCell ⟨B1,1,none⟩ (.int .i64 l)).setCell ⟨B2,0,none⟩ (.int .i64 u)).setCell ⟨B2,1,none⟩ (.int .i64 v)).frozen? ⟨B1,0,none⟩=false∧((((w3.setCell ⟨B1,0,none⟩ (.int .i64 h)).setCell ⟨B1,1,none⟩ (.int .i64 l)).setCell ⟨B2,0,none⟩ (.int .i64 u)).setCell ⟨B2,1,none⟩ (.int .i64 v)).frozen? ⟨B1,1,none⟩=false∧((((w3.setCell ⟨B1,0,none⟩ (.int .i64 h)).setCell ⟨B1,1,none⟩ (.int .i64 l)).setCell ⟨B2,0,none⟩ (.int .i64 u)).setCell ⟨B2,1,none⟩ (.int .i64 v)).frozen? ⟨B2,0,none⟩=false∧((((w3.setCell ⟨B1,0,none⟩ (.int .i64 h)).setCell ⟨B1,1,none⟩ (.int .i64 l)).setCell ⟨B2,0,none⟩ (.int .i64 u)).setCell ⟨B2,1,none⟩ (.int .i64 v)).frozen? ⟨B2,1,none⟩=false:=⟨HSt4.out.b1.cell 0,HSt4.out.b1.cell 1,HSt4.out.b2.cell 0,HSt4.out.b2.cell 1,HSt4.out.b1.free 0,HSt4.out.b1.free 1,HSt4.out.b2.free 0,HSt4.out.b2.free 1⟩
 refine Eng.Sch.end_ [5,6,7,8] HN.out (by kernel_rfl) (by kernel_rfl) ?_
 exact HP.out _ _ HSt4.out
theorem Less (a b:Int × Int) (ha:HistP.May a) (hb:HistP.May b) (w:World):Calls prog 259 #[sv a,sv b] w fun e w'=>e=.returned (.bool (lessS a b))∧Fr (fun _=>False) w w':=by
 obtain ⟨h,l⟩:=a
 obtain ⟨u,v⟩:=b
 have HA:=Lib.hid ha;have HB:=Lib.hid hb
 have HW:=Lib.hid (W2.new w (h,l) (u,v))
 have HE:Hid (lessS (h,l) (u,v)=decide (h<u∨h=u∧l<v)):=rfl
 clear ha hb
 go_enter func259,ntmps259
 go_upto_region 1 with (fail)
 refine l1 (by kernel_rfl) _ _ w _ w.heap.size (w.heap.size+1) h l u v HW.out HA.out HB.out rfl rfl rfl ?_
 intro x w' hst
 simp only [Eng.setAll,Act.put,List.setIfInBounds_toArray,List.set_cons_succ,List.set_cons_zero]
 obtain ⟨c0,c1,-,-⟩:=Bk.cells hst.b1
 obtain ⟨d0,d1,-,-⟩:=Bk.cells hst.b2
 dsimp only at c0 c1 d0 d1
 have HF:=Lib.hid hst.fr
 clear hst HW
 by_cases h1:h<u
 ·go_wp2_with fail
  go_ret
  exact ⟨by rw [HE.out];simp [h1],HF.out⟩
 ·have t1:decide (h<u)=false:=by simpa using h1
  by_cases h2:h=u
  ·have t2:(h==u)=true:=by simpa using h2
   have H2:=Lib.hid h2
   clear h2
   by_cases h3:l<v
   all_goals
    go_wp2_with fail
    go_ret
    exact ⟨by rw [HE.out];simp [h3,H2.out],HF.out⟩
  ·have t2:(h==u)=false:=by simpa using h2
   have H2:=Lib.hid h2
   clear h2
   go_wp2_with fail
   go_ret
   exact ⟨by rw [HE.out];simp [h1,H2.out],HF.out⟩
theorem sum_snoc (l:List Int) {k:Nat} (h:k<l.length):sumS (l.take (k+1))=addS (sumS (l.take k)) l[k]:=by
 unfold sumS;rw [List.take_succ_eq_append_getElem h,List.foldl_append];rfl
theorem Of (A:Option Addr) (c:Nat) (l:List Int) (w:World) (hS:Sl w 1 A l.length c (ints l)):Calls prog 260 #[.slice A l.length c] w (PostS (sumS l) w):=by
 have hlen:l.length≤9223372036854775807:=by have:=hS.2.1;have:=hS.2.2.1;unfold maxLen at this;omega
 have HS:=Lib.hid hS
 have HW:=Lib.hid (W2.new w (0,0) (0,0))
 clear hS
 go_enter func260,ntmps260
 go_wp2_with fail
 go_loopg [5,8] l.length (fun gk _ i wr=>∃k:Nat,i=.int .i64 k∧k≤l.length∧gk=l.length-k∧W2 w wr w.heap.size (w.heap.size+1) (0,0) (sumS (l.take k)))
 case atStart=>exact ⟨0,rfl,Nat.zero_le _,rfl,HW.out⟩
 case round=>
  clear HW
  obtain ⟨k,rfl,hk,hg,hst⟩:=hrel
  have HG:=Lib.hid hg;have HSt:=Lib.hid hst
  clear hg hst
  by_cases hlt:k<l.length
  ·obtain ⟨b1,o1,rfl,hb1,c1⟩:=HS.out.at hlt (by omega)
   have e1:wr.cell? ⟨b1,o1+k,none⟩=some (.int .i64 l[k]):=(World.cell?_of_block (w:=w) (a:=⟨b1,_,none⟩) (HSt.out.fr.block b1 hb1 (fun h=>h))).trans (c1 k _ (by simp [ints,hlt]))
   have hm:HistP.May (sumS (l.take k)):=May.sum _ May.zero
   have HAd:=fun w=>Lib.hid (Add (sumS (l.take k)) l[k] hm w)
   have HSn:=Lib.hid (sum_snoc l hlt)
   obtain ⟨d0,d1,g0,g1⟩:=Bk.cells HSt.out.b2
   generalize hs:sumS (l.take k)=s at *
   clear hs c1
   generalize l[k]=x at *
   obtain ⟨h,lo⟩:=s
   dsimp only at d0 d1
   go_wp2_with fail
   refine (HAd _).out.mono ?_
   rintro e w2 ⟨rfl,hf⟩
   have H2:=Lib.hid (HSt.out.frF hf)
   have H3:=Lib.hid (H2.out.set2 (addS (h,lo) x))
   clear d0 d1 g0 g1 hf
   obtain ⟨d0,d1,g0,g1⟩:=Bk.cells H2.out.b2
   generalize addS (h,lo) x=s at *
   obtain ⟨h',lo'⟩:=s
   dsimp only at d0 d1
   go_wp2_with fail
   go_roundg (l.length-(k+1))
   case rel=>exact ⟨k+1,by go_num,by omega,rfl,by rw [HSn.out];exact H3.out⟩
   case measure=>have:=HG.out;omega
  ·obtain rfl:k=l.length:=by omega
   rw [List.take_length] at HSt
   obtain ⟨c0,c1,f0,f1⟩:=Bk.cells HSt.out.b1
   obtain ⟨d0,d1,g0,g1⟩:=Bk.cells HSt.out.b2
   have hm:=Lib.hid (show True from trivial)
   generalize sumS l=s at *
   obtain ⟨h,lo⟩:=s
   dsimp only at d0 d1 c0 c1
   go_wp2_with fail
   exact bodyPost_ret (results_cell_row rfl _ _ w.heap.size TS _ (0,0) _ rfl ((HSt.out.b1.set 0 _).set 1 _) underlying63 rfl (by kernel_rfl)) rfl ⟨rfl,(HSt.out.fr.set_new (Nat.le_refl _) _).set_new (Nat.le_refl _) _⟩
end Wide
end Go.Proofs.YtdpngmgaomghoaaGreat
