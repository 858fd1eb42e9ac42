/- Layer 23's statements: what both use. -/
import Derived.Test.YtgfjpnpbkkadpaaGreatRf23
import Derived.Test.YtgfjpnpbkkadpaaGreatLaw22s
namespace Go.Proofs.YtgfjpnpbkkadpaaGreat
open Tryz
set_option maxRecDepth 100000
set_option maxHeartbeats 1000000
open Go.RowKit
namespace Law23
open BagP Bag ShapeP Fm Shape Ref23
attribute [local go_sem] Eng.ev Eng.getO_cons Eng.getO_nil
theorem sl_row (w:World) (t:TypeId) (cs:List Value) (n sz:Nat) (hs:cs.length=n*sz) (hn:n≤maxLen):Sl (w.alloc (.cells cs.toArray t)) sz (some ⟨w.heap.size,0,none⟩) n n cs:=by
 refine ⟨hs,Nat.le_refl _,hn,(by simp),fun _=>⟨_,0,rfl,fun i u hu=>?_⟩⟩
 rw [Nat.zero_add,cell_of_block (heap_new w _)]
 simpa using hu
theorem tn_not {F F':List Nat} {w w':World} {b:Nat} (ht:Tn F F' w w') (h:b∉F) (hb:b<w.heap.size):b∉F':=fun e=>by
 rcases (ht.sub b e).1 with e|e
 ·exact h e
 ·omega
abbrev pa:Pl:=⟨0,0,1,1,0,1⟩
abbrev pb:Pl:=⟨0,0,1,2,0,0⟩
abbrev x3:Shp:=⟨3,3,0,0,[(1,1),(2,2)],[(0,2),(1,1)]⟩
theorem shp3:IsShp [pa.k,pb.k,pb.k] x3:=by
 have hD:Dep [pa.k,pb.k,pb.k] [(1,1),(2,2)]:=by
  have h:=((IsBag.nil (key:=kd) (q:=qd)).add (by decide) pa.k rfl).add (by decide) pb.k rfl |>.add (by decide) pb.k rfl
  have e:addL (kd pb.k) 1 (addL (kd pb.k) 1 (addL (kd pa.k) 1 []))= [(1,1),(2,2)]:=by decide
  rw [e] at h;exact h
 have hF:Fan [pa.k,pb.k,pb.k] [(0,2),(1,1)]:=by
  have h:=((IsBag.nil (key:=kf) (q:=qf)).add (by decide) pa.k rfl).add (by decide) pb.k rfl |>.add (by decide) pb.k rfl
  have e:addL (kf pb.k) 1 (addL (kf pb.k) 1 (addL (kf pa.k) 1 []))= [(0,2),(1,1)]:=by decide
  rw [e] at h;exact h
 exact ⟨by decide,by decide,by decide,by decide,hD,hF⟩
def Sb (w:World) (r:Nat) (xs:List Pl) (F:List Nat):Prop:=w.heap[r]? =some (.cells (xs.flatMap plc).toArray TP)∧r∉F
structure AW (w0 w:World) (B n:Nat) (l:List K3) (F:List Nat) (Ba Bb Bx:Nat) (A1 A2:Option Addr) (c1 c2:Nat) (X:List (Nat × List Pl)) (Y:List (Option Addr × Nat × List (Int × Int))):Prop where
 v:VB w B n l F
 a:Bk w Ba (pla pa) TP
 b:Bk w Bb (pla pb) TP
 x:Bk w Bx (sha x3 A1 A2 c1 c2) TSp
 d:Cs w A1 c1 x3.D
 f:Cs w A2 c2 x3.F
 na:Ba∉F
 nb:Bb∉F
 nx:Bx∉F
 n1:∀a,A1=some a→a.block∉F
 n2:∀a,A2=some a→a.block∉F
 lo:∀b∈F,w0.heap.size≤b
 fr0:Fr (fun _=>False) w0 w
 ex:∀p∈X,Sb w p.1 p.2 F
 y:∀s∈Y,Cs w s.1 s.2.1 s.2.2
section
variable {w0 w w':World} {B n:Nat} {l:List K3} {F F':List Nat} {Ba Bb Bx:Nat} {A1 A2:Option Addr} {c1 c2:Nat} {X:List (Nat × List Pl)} {Y:List (Option Addr × Nat × List (Int × Int))}
theorem Sb.ar {r:Nat} {xs:List Pl} (h:Sb w r xs F) (hx:xs.length≤1000):Ar w (some ⟨r,0,none⟩) xs.length xs F:=
 ⟨⟨flat_length plc_len xs,Nat.le_refl _,by unfold maxLen;omega,by simp,fun _=>⟨r,0,rfl,fun i u hu=>by rw [Nat.zero_add,cell_of_block h.1];simpa using hu⟩⟩,fun _ a ha=>by cases ha;exact h.2⟩
theorem Sb.new (h:VB w B n l F) (xs:List Pl):Sb (w.alloc (.cells (xs.flatMap plc).toArray TP)) w.heap.size xs F:=⟨heap_new _ _,fun e=>by have:=h.lt _ e;omega⟩
theorem Sb.fr {r:Nat} {xs:List Pl} (h:Sb w r xs F) (hf:Fr (fun _=>False) w w'):Sb w' r xs F:=⟨(hf.block r (lt_of_heap h.1) (fun h=>h)).trans h.1,h.2⟩
theorem Sb.turn {r:Nat} {xs:List Pl} (h:Sb w r xs F) (ht:Tn F F' w w'):Sb w' r xs F':=⟨(ht.fr.block r (lt_of_heap h.1) h.2).trans h.1,tn_not ht h.2 (lt_of_heap h.1)⟩
theorem AW.fr (h:AW w0 w B n l F Ba Bb Bx A1 A2 c1 c2 X Y) (hf:Fr (fun _=>False) w w'):AW w0 w' B n l F Ba Bb Bx A1 A2 c1 c2 X Y:=
 ⟨h.v.fr hf (fun _ _ h=>h),h.a.fr hf (fun _ _ h=>h),h.b.fr hf (fun _ _ h=>h),h.x.fr hf (fun _ _ h=>h),h.d.fr hf (fun _ _ h=>h),h.f.fr hf (fun _ _ h=>h),h.na,h.nb,h.nx,h.n1,h.n2,h.lo,h.fr0.trans hf (fun _ _ h=>h) (fun _ _ h=>h),fun p hp=>(h.ex p hp).fr hf,fun s hs=>(h.y s hs).fr hf (fun _ _ h=>h)⟩
theorem AW.mk1 (h:AW w0 w B n l F Ba Bb Bx A1 A2 c1 c2 X Y) (xs:List Pl):AW w0 (w.alloc (.cells (xs.flatMap plc).toArray TP)) B n l F Ba Bb Bx A1 A2 c1 c2 ((w.heap.size,xs)::X) Y:=by
 have k:=h.fr (Fr.alloc (fun _=>False) w (.cells (xs.flatMap plc).toArray TP))
 refine ⟨k.v,k.a,k.b,k.x,k.d,k.f,k.na,k.nb,k.nx,k.n1,k.n2,k.lo,k.fr0,fun p hp=>?_,k.y⟩
 rcases List.mem_cons.1 hp with rfl|hp
 ·exact Sb.new h.v xs
 ·exact (h.ex p hp).fr (Fr.alloc _ _ _)
theorem AW.exx (h:AW w0 w B n l F Ba Bb Bx A1 A2 c1 c2 X Y) {r:Nat} {xs:List Pl} (hx:(r,xs)∈X):Sb w r xs F:=h.ex _ hx
theorem AW.turn {m:Nat} {l':List K3} (h:AW w0 w B n l F Ba Bb Bx A1 A2 c1 c2 X Y) (hv:VB w' B m l' F') (ht:Tn F F' w w'):AW w0 w' B m l' F' Ba Bb Bx A1 A2 c1 c2 X []:=
 ⟨hv,h.a.fr ht.fr (fun b hb=>by simp at hb;subst hb;exact h.na),h.b.fr ht.fr (fun b hb=>by simp at hb;subst hb;exact h.nb),h.x.fr ht.fr (fun b hb=>by simp at hb;subst hb;exact h.nx),
  h.d.fr ht.fr h.n1,h.f.fr ht.fr h.n2,tn_not ht h.na (lt_of_heap h.a),tn_not ht h.nb (lt_of_heap h.b),tn_not ht h.nx (lt_of_heap h.x),
  fun a ha=>tn_not ht (h.n1 a ha) (h.d.lt (by simp) a ha),fun a ha=>tn_not ht (h.n2 a ha) (h.f.lt (by simp) a ha),
  fun b hb=>by
   rcases (ht.sub b hb).1 with e|e
   ·exact h.lo b e
   ·have:=h.fr0.size;omega,h.fr0.trans ht.fr (fun _ _ h=>h) (fun i hi e=>by have:=h.lo i e;omega),fun p hp=>(h.ex p hp).turn ht,by simp⟩
theorem AW.less (h:AW w0 w B n l F Ba Bb Bx A1 A2 c1 c2 X Y):AW w0 w B n l F Ba Bb Bx A1 A2 c1 c2 [] []:={ h with ex:=by simp,y:=by simp }
theorem AW.yfr {P1 P2:Option Addr} {e1 e2:Nat} {D1 D2:List (Int × Int)} (h:AW w0 w B n l F Ba Bb Bx A1 A2 c1 c2 X Y) (hf:Fr (fun _=>False) w w') (s1:Cs w' P1 e1 D1) (s2:Cs w' P2 e2 D2):AW w0 w' B n l F Ba Bb Bx A1 A2 c1 c2 X [(P1,e1,D1),(P2,e2,D2)]:=by
 have k:=h.fr hf
 refine ⟨k.v,k.a,k.b,k.x,k.d,k.f,k.na,k.nb,k.nx,k.n1,k.n2,k.lo,k.fr0,k.ex,fun s hs=>?_⟩
 simp only [List.mem_cons,List.not_mem_nil,or_false] at hs
 rcases hs with rfl|rfl
 ·exact s1
 ·exact s2
theorem Ar.nil (w:World) (F:List Nat):Ar w none 0 [] F:=⟨Sl.empty _ _,fun h=>absurd rfl h⟩
theorem okpa:okK pa.k:=⟨wf_small (by decide) (by decide),wf_small (by decide) (by decide),wf_small (by decide) (by decide)⟩
theorem okpb:okK pb.k:=⟨wf_small (by decide) (by decide),wf_small (by decide) (by decide),wf_small (by decide) (by decide)⟩
theorem AW.app (h:AW w0 w B n l F Ba Bb Bx A1 A2 c1 c2 X Y) {P1 P2:Option Addr} {e1 e2:Nat} {xs ys:List Pl} (a1:Ar w P1 e1 xs F) (a2:Ar w P2 e2 ys F) (w1:∀x∈xs,okK x.k) (w2:∀x∈ys,okK x.k) (hx:xs.length≤10) (hy:ys.length≤10) (hl:l.length≤100) (hn:n≤100)
  {bb:Bool} {l':List K3} (hb:hasB l (xs.map Pl.k)=bb) (hl':appL l (xs.map Pl.k) (ys.map Pl.k)=l'):
  Calls prog 50 #[.pointer (some ⟨B,0,none⟩),.agg #[.slice P1 xs.length e1,.slice P2 ys.length e2]] w fun e w'=>e=.returned (.bool bb)∧∃F',AW w0 w' B (n+3*(xs.length+ys.length)) l' F' Ba Bb Bx A1 A2 c1 c2 X []∧Tn F F' w w':=by
 refine (Apply B n l F P1 P2 e1 e2 xs ys w h.v a1 a2 w1 w2 (by omega) (by omega) (by omega) (by omega)).mono ?_
 rintro e w' ⟨rfl,F',hv,ht⟩
 rw [hl'] at hv
 exact ⟨by rw [hb],F',h.turn hv ht,ht⟩
end
theorem w5 {ops:Array Oper} (hops:Eng.fnOps Tryz.f47 5=ops) (a0:Act) (Q:Exit→Act→World→Prop) (w0 w:World) (B n:Nat) (F:List Nat) (Ba Bb Bx:Nat) (A1 A2:Option Addr) (c1 c2:Nat) (hst:AW w0 w B n [pa.k] F Ba Bb Bx A1 A2 c1 c2 [] []) (hn_:n≤100)
  (hn:a0.tmps.size=69) (h_1:a0.tmps.getD 1 undef=.pointer (some ⟨Ba,0,none⟩)) (h_2:a0.tmps.getD 2 undef=.pointer (some ⟨Bb,0,none⟩)) (h_3:a0.tmps.getD 3 undef=.pointer (some ⟨Bx,0,none⟩)) (h_4:a0.tmps.getD 4 undef=.pointer (some ⟨B,0,none⟩)) (h_5:a0.tmps.getD 5 undef=.bool true) (h_6:a0.tmps.getD 6 undef=.bool true)
  (hpost:∀ (x:Nat→Value) (w':World),x 0=.bool true→Fr (fun _=>False) w0 w'→Q .normal (Eng.setAll a0 [0,23,24,25,26,27,28,29,30,31,32,33,34,35,36,37,38,39,40,41,42,43,44,45,46,47,48,49,50,51,52,53,54,55,56,57,58,59,60,61,62,63,64,65,66,67,68] x) w'):
  (Code.region 5 ops true).wp prog Q a0 w:=by
 simp only [Eng.fnOps,Eng.regOps,Tryz.f47,Option.bind_some,Option.getD_some,Nat.reduceEqDiff,↓reduceIte] at hops
 subst hops
 have g2:Hid (great x3.D=2∧great x3.F=1):=by exact ⟨by decide,by decide⟩
 have HSt:=Lib.hid (hst.fr (Fr.drew _ _))
 refine Eng.regionT (.take 0 (.take 1 (.take 2 (.take 3 (.take 4 (.take 5 (.take 6 (.take 7 (.take 8 (.take 9 (.take 10 (.take 11 (.take 12 (.alt 13 (.alt 14 (.take 15 (.take 16 (.take 17 (.alt 18 (.take 19 (.take 20 (.take 21 (.take 22 (.alt 23 (.take 24 (.take 25 (.take 26 (.take 27 (.take 28 (.take 29 (.take 30 (.take 31 (.take 32 (.take 33 (.alt 34 (.take 35 (.alt 36 (.take 37 (.take 38 (.take 39 (.take 41 (.alt 40 (.alt 42 (.alt 43 (.alt 44 (.take 45 (.take 46 (.done))) (.stop)) (.stop)) (.stop)) (.alt 42 (.alt 40 (.alt 43 (.alt 44 (.take 45 (.take 46 (.done))) (.stop)) (.stop)) (.stop)) (.stop))))))) (.stop))) (.stop)))))))))))) (.stop)))))) (.stop))))) (.stop)) (.stop))))))))))))))) (fun w'=>w'.cell? ⟨Bx,0,none⟩=some (.int .i64 3)∧w'.cell? ⟨Bx,1,none⟩=some (.int .i64 3)∧w'.cell? ⟨Bx,2,none⟩=some (.int .i64 0)∧w'.cell? ⟨Bx,3,none⟩=some (.int .i64 0)∧w'.cell? ⟨Bx,4,none⟩=some (.slice A1 2 c1)∧w'.cell? ⟨Bx,5,none⟩=some (.slice A2 2 c2)∧w'.cell? ⟨Ba,0,none⟩=some (.int .i64 0)∧w'.cell? ⟨Ba,1,none⟩=some (.int .i64 0)∧w'.cell? ⟨Ba,2,none⟩=some (.int .i64 1)∧w'.cell? ⟨Ba,3,none⟩=some (.int .i64 1)∧w'.cell? ⟨Ba,4,none⟩=some (.int .i64 0)∧w'.cell? ⟨Ba,5,none⟩=some (.int .i64 1)∧w'.cell? ⟨Bb,0,none⟩=some (.int .i64 0)∧w'.cell? ⟨Bb,1,none⟩=some (.int .i64 0)∧w'.cell? ⟨Bb,2,none⟩=some (.int .i64 1)∧w'.cell? ⟨Bb,3,none⟩=some (.int .i64 2)∧w'.cell? ⟨Bb,4,none⟩=some (.int .i64 0)∧w'.cell? ⟨Bb,5,none⟩=some (.int .i64 0)) (by kernel_rfl) 69 hn (by kernel_rfl) (by kernel_rfl) (by kernel_rfl) (⟨HSt.out.x.cell 0,HSt.out.x.cell 1,HSt.out.x.cell 2,HSt.out.x.cell 3,HSt.out.x.cell 4,HSt.out.x.cell 5,HSt.out.a.cell 0,HSt.out.a.cell 1,HSt.out.a.cell 2,HSt.out.a.cell 3,HSt.out.a.cell 4,HSt.out.a.cell 5,HSt.out.b.cell 0,HSt.out.b.cell 1,HSt.out.b.cell 2,HSt.out.b.cell 3,HSt.out.b.cell 4,HSt.out.b.cell 5⟩) (fun a b ha hb=>?_)
 subst ha
 have hb1:b 1=.pointer (some ⟨Ba,0,none⟩):=(hb 1).symm.trans h_1
 have hb2:b 2=.pointer (some ⟨Bb,0,none⟩):=(hb 2).symm.trans h_2
 have hb3:b 3=.pointer (some ⟨Bx,0,none⟩):=(hb 3).symm.trans h_3
 have hb4:b 4=.pointer (some ⟨B,0,none⟩):=(hb 4).symm.trans h_4
 have hb5:b 5=.bool true:=(hb 5).symm.trans h_5
 have hb6:b 6=.bool true:=(hb 6).symm.trans h_6
 clear hb h_1 h_2 h_3 h_4 h_5 h_6
 have HP:=Lib.hid hpost;have HN:=Lib.hid hn
 clear hpost hn
 iterate 13 (refine Eng.TW.tk ?_)
 have HSt2:=Lib.hid (HSt.out.fr (Fr.alloc _ _ (.cells #[.int .i64 1,.int .i64 1,.int .i64 2,.int .i64 2] TC)))
 refine Eng.TW.step rfl rfl (by decide) (by kernel_rfl) (by go_simp;first|done|with_reducible rfl) (⟨HSt2.out.x.cell 0,HSt2.out.x.cell 1,HSt2.out.x.cell 2,HSt2.out.x.cell 3,HSt2.out.x.cell 4,HSt2.out.x.cell 5,HSt2.out.a.cell 0,HSt2.out.a.cell 1,HSt2.out.a.cell 2,HSt2.out.a.cell 3,HSt2.out.a.cell 4,HSt2.out.a.cell 5,HSt2.out.b.cell 0,HSt2.out.b.cell 1,HSt2.out.b.cell 2,HSt2.out.b.cell 3,HSt2.out.b.cell 4,HSt2.out.b.cell 5⟩) ?_
 have hSS:(w.drew.alloc (.cells #[.int .i64 1,.int .i64 1,.int .i64 2,.int .i64 2] TC)).cell? ⟨Bx,0,none⟩=some (.int .i64 3)∧(w.drew.alloc (.cells #[.int .i64 1,.int .i64 1,.int .i64 2,.int .i64 2] TC)).cell? ⟨Bx,1,none⟩=some (.int .i64 3)∧(w.drew.alloc (.cells #[.int .i64 1,.int .i64 1,.int .i64 2,.int .i64 2] TC)).cell? ⟨Bx,2,none⟩=some (.int .i64 0)∧(w.drew.alloc (.cells #[.int .i64 1,.int .i64 1,.int .i64 2,.int .i64 2] TC)).cell? ⟨Bx,3,none⟩=some (.int .i64 0)∧(w.drew.alloc (.cells #[.int .i64 1,.int .i64 1,.int .i64 2,.int .i64 2] TC)).cell? ⟨Bx,4,none⟩=some (.slice A1 2 c1)∧(w.drew.alloc (.cells #[.int .i64 1,.int .i64 1,.int .i64 2,.int .i64 2] TC)).cell? ⟨Bx,5,none⟩=some (.slice A2 2 c2)∧(w.drew.alloc (.cells #[.int .i64 1,.int .i64 1,.int .i64 2,.int .i64 2] TC)).cell? ⟨Ba,0,none⟩=some (.int .i64 0)∧(w.drew.alloc (.cells #[.int .i64 1,.int .i64 1,.int .i64 2,.int .i64 2] TC)).cell? ⟨Ba,1,none⟩=some (.int .i64 0)∧(w.drew.alloc (.cells #[.int .i64 1,.int .i64 1,.int .i64 2,.int .i64 2] TC)).cell? ⟨Ba,2,none⟩=some (.int .i64 1)∧(w.drew.alloc (.cells #[.int .i64 1,.int .i64 1,.int .i64 2,.int .i64 2] TC)).cell? ⟨Ba,3,none⟩=some (.int .i64 1)∧(w.drew.alloc (.cells #[.int .i64 1,.int .i64 1,.int .i64 2,.int .i64 2] TC)).cell? ⟨Ba,4,none⟩=some (.int .i64 0)∧(w.drew.alloc (.cells #[.int .i64 1,.int .i64 1,.int .i64 2,.int .i64 2] TC)).cell? ⟨Ba,5,none⟩=some (.int .i64 1)∧(w.drew.alloc (.cells #[.int .i64 1,.int .i64 1,.int .i64 2,.int .i64 2] TC)).cell? ⟨Bb,0,none⟩=some (.int .i64 0)∧(w.drew.alloc (.cells #[.int .i64 1,.int .i64 1,.int .i64 2,.int .i64 2] TC)).cell? ⟨Bb,1,none⟩=some (.int .i64 0)∧(w.drew.alloc (.cells #[.int .i64 1,.int .i64 1,.int .i64 2,.int .i64 2] TC)).cell? ⟨Bb,2,none⟩=some (.int .i64 1)∧(w.drew.alloc (.cells #[.int .i64 1,.int .i64 1,.int .i64 2,.int .i64 2] TC)).cell? ⟨Bb,3,none⟩=some (.int .i64 2)∧(w.drew.alloc (.cells #[.int .i64 1,.int .i64 1,.int .i64 2,.int .i64 2] TC)).cell? ⟨Bb,4,none⟩=some (.int .i64 0)∧(w.drew.alloc (.cells #[.int .i64 1,.int .i64 1,.int .i64 2,.int .i64 2] TC)).cell? ⟨Bb,5,none⟩=some (.int .i64 0):=⟨HSt2.out.x.cell 0,HSt2.out.x.cell 1,HSt2.out.x.cell 2,HSt2.out.x.cell 3,HSt2.out.x.cell 4,HSt2.out.x.cell 5,HSt2.out.a.cell 0,HSt2.out.a.cell 1,HSt2.out.a.cell 2,HSt2.out.a.cell 3,HSt2.out.a.cell 4,HSt2.out.a.cell 5,HSt2.out.b.cell 0,HSt2.out.b.cell 1,HSt2.out.b.cell 2,HSt2.out.b.cell 3,HSt2.out.b.cell 4,HSt2.out.b.cell 5⟩
 refine Eng.TW.call rfl rfl (by decide) (by kernel_rfl) ?_ (Ref13.Same A1 _ c1 2 x3.D x3.D _ 2 2 rfl rfl HSt2.out.d (sl_row _ TC (x3.D.flatMap pc) 2 2 rfl (by simp [maxLen])) rfl) ?_
 ·go_simp
 rintro e w3 ⟨rfl,hf⟩
 have HSt3:=Lib.hid (HSt2.out.fr hf)
 clear hf
 refine ⟨_,rfl,⟨HSt3.out.x.cell 0,HSt3.out.x.cell 1,HSt3.out.x.cell 2,HSt3.out.x.cell 3,HSt3.out.x.cell 4,HSt3.out.x.cell 5,HSt3.out.a.cell 0,HSt3.out.a.cell 1,HSt3.out.a.cell 2,HSt3.out.a.cell 3,HSt3.out.a.cell 4,HSt3.out.a.cell 5,HSt3.out.b.cell 0,HSt3.out.b.cell 1,HSt3.out.b.cell 2,HSt3.out.b.cell 3,HSt3.out.b.cell 4,HSt3.out.b.cell 5⟩,?_⟩
 iterate 3 (refine Eng.TW.tk ?_)
 refine Eng.TW.call rfl rfl (by decide) (by kernel_rfl) ?_ (Deepest x3 A1 A2 c1 c2 _ HSt3.out.d) ?_
 ·go_simp
 rintro e w4 ⟨rfl,hf⟩
 rw [g2.out.1]
 have HSt4:=Lib.hid (HSt3.out.fr hf)
 clear hf
 refine ⟨_,rfl,⟨HSt4.out.x.cell 0,HSt4.out.x.cell 1,HSt4.out.x.cell 2,HSt4.out.x.cell 3,HSt4.out.x.cell 4,HSt4.out.x.cell 5,HSt4.out.a.cell 0,HSt4.out.a.cell 1,HSt4.out.a.cell 2,HSt4.out.a.cell 3,HSt4.out.a.cell 4,HSt4.out.a.cell 5,HSt4.out.b.cell 0,HSt4.out.b.cell 1,HSt4.out.b.cell 2,HSt4.out.b.cell 3,HSt4.out.b.cell 4,HSt4.out.b.cell 5⟩,?_⟩
 iterate 4 (refine Eng.TW.tk ?_)
 refine Eng.TW.call rfl rfl (by decide) (by kernel_rfl) ?_ (Widest x3 A1 A2 c1 c2 _ HSt4.out.f) ?_
 ·go_simp
 rintro e w5 ⟨rfl,hf⟩
 rw [g2.out.2]
 have HSt5:=Lib.hid (HSt4.out.fr hf)
 clear hf
 refine ⟨_,rfl,⟨HSt5.out.x.cell 0,HSt5.out.x.cell 1,HSt5.out.x.cell 2,HSt5.out.x.cell 3,HSt5.out.x.cell 4,HSt5.out.x.cell 5,HSt5.out.a.cell 0,HSt5.out.a.cell 1,HSt5.out.a.cell 2,HSt5.out.a.cell 3,HSt5.out.a.cell 4,HSt5.out.a.cell 5,HSt5.out.b.cell 0,HSt5.out.b.cell 1,HSt5.out.b.cell 2,HSt5.out.b.cell 3,HSt5.out.b.cell 4,HSt5.out.b.cell 5⟩,?_⟩
 iterate 10 (refine Eng.TW.tk ?_)
 have HSt6:=Lib.hid (HSt5.out.mk1 [pb])
 refine Eng.TW.step rfl rfl (by decide) (by kernel_rfl) (by go_simp;first|done|with_reducible rfl) (⟨HSt6.out.x.cell 0,HSt6.out.x.cell 1,HSt6.out.x.cell 2,HSt6.out.x.cell 3,HSt6.out.x.cell 4,HSt6.out.x.cell 5,HSt6.out.a.cell 0,HSt6.out.a.cell 1,HSt6.out.a.cell 2,HSt6.out.a.cell 3,HSt6.out.a.cell 4,HSt6.out.a.cell 5,HSt6.out.b.cell 0,HSt6.out.b.cell 1,HSt6.out.b.cell 2,HSt6.out.b.cell 3,HSt6.out.b.cell 4,HSt6.out.b.cell 5⟩) ?_
 have hSS:(w5.alloc (.cells #[.int .i64 0,.int .i64 0,.int .i64 1,.int .i64 2,.int .i64 0,.int .i64 0] TP)).cell? ⟨Bx,0,none⟩=some (.int .i64 3)∧(w5.alloc (.cells #[.int .i64 0,.int .i64 0,.int .i64 1,.int .i64 2,.int .i64 0,.int .i64 0] TP)).cell? ⟨Bx,1,none⟩=some (.int .i64 3)∧(w5.alloc (.cells #[.int .i64 0,.int .i64 0,.int .i64 1,.int .i64 2,.int .i64 0,.int .i64 0] TP)).cell? ⟨Bx,2,none⟩=some (.int .i64 0)∧(w5.alloc (.cells #[.int .i64 0,.int .i64 0,.int .i64 1,.int .i64 2,.int .i64 0,.int .i64 0] TP)).cell? ⟨Bx,3,none⟩=some (.int .i64 0)∧(w5.alloc (.cells #[.int .i64 0,.int .i64 0,.int .i64 1,.int .i64 2,.int .i64 0,.int .i64 0] TP)).cell? ⟨Bx,4,none⟩=some (.slice A1 2 c1)∧(w5.alloc (.cells #[.int .i64 0,.int .i64 0,.int .i64 1,.int .i64 2,.int .i64 0,.int .i64 0] TP)).cell? ⟨Bx,5,none⟩=some (.slice A2 2 c2)∧(w5.alloc (.cells #[.int .i64 0,.int .i64 0,.int .i64 1,.int .i64 2,.int .i64 0,.int .i64 0] TP)).cell? ⟨Ba,0,none⟩=some (.int .i64 0)∧(w5.alloc (.cells #[.int .i64 0,.int .i64 0,.int .i64 1,.int .i64 2,.int .i64 0,.int .i64 0] TP)).cell? ⟨Ba,1,none⟩=some (.int .i64 0)∧(w5.alloc (.cells #[.int .i64 0,.int .i64 0,.int .i64 1,.int .i64 2,.int .i64 0,.int .i64 0] TP)).cell? ⟨Ba,2,none⟩=some (.int .i64 1)∧(w5.alloc (.cells #[.int .i64 0,.int .i64 0,.int .i64 1,.int .i64 2,.int .i64 0,.int .i64 0] TP)).cell? ⟨Ba,3,none⟩=some (.int .i64 1)∧(w5.alloc (.cells #[.int .i64 0,.int .i64 0,.int .i64 1,.int .i64 2,.int .i64 0,.int .i64 0] TP)).cell? ⟨Ba,4,none⟩=some (.int .i64 0)∧(w5.alloc (.cells #[.int .i64 0,.int .i64 0,.int .i64 1,.int .i64 2,.int .i64 0,.int .i64 0] TP)).cell? ⟨Ba,5,none⟩=some (.int .i64 1)∧(w5.alloc (.cells #[.int .i64 0,.int .i64 0,.int .i64 1,.int .i64 2,.int .i64 0,.int .i64 0] TP)).cell? ⟨Bb,0,none⟩=some (.int .i64 0)∧(w5.alloc (.cells #[.int .i64 0,.int .i64 0,.int .i64 1,.int .i64 2,.int .i64 0,.int .i64 0] TP)).cell? ⟨Bb,1,none⟩=some (.int .i64 0)∧(w5.alloc (.cells #[.int .i64 0,.int .i64 0,.int .i64 1,.int .i64 2,.int .i64 0,.int .i64 0] TP)).cell? ⟨Bb,2,none⟩=some (.int .i64 1)∧(w5.alloc (.cells #[.int .i64 0,.int .i64 0,.int .i64 1,.int .i64 2,.int .i64 0,.int .i64 0] TP)).cell? ⟨Bb,3,none⟩=some (.int .i64 2)∧(w5.alloc (.cells #[.int .i64 0,.int .i64 0,.int .i64 1,.int .i64 2,.int .i64 0,.int .i64 0] TP)).cell? ⟨Bb,4,none⟩=some (.int .i64 0)∧(w5.alloc (.cells #[.int .i64 0,.int .i64 0,.int .i64 1,.int .i64 2,.int .i64 0,.int .i64 0] TP)).cell? ⟨Bb,5,none⟩=some (.int .i64 0):=⟨HSt6.out.x.cell 0,HSt6.out.x.cell 1,HSt6.out.x.cell 2,HSt6.out.x.cell 3,HSt6.out.x.cell 4,HSt6.out.x.cell 5,HSt6.out.a.cell 0,HSt6.out.a.cell 1,HSt6.out.a.cell 2,HSt6.out.a.cell 3,HSt6.out.a.cell 4,HSt6.out.a.cell 5,HSt6.out.b.cell 0,HSt6.out.b.cell 1,HSt6.out.b.cell 2,HSt6.out.b.cell 3,HSt6.out.b.cell 4,HSt6.out.b.cell 5⟩
 refine Eng.TW.tk ?_
 refine Eng.TW.call rfl rfl (by decide) (by kernel_rfl) ?_ (HSt6.out.app ((HSt6.out.ex _ (List.mem_cons_self ..)).ar (by simp)) (Ar.nil _ _) (by simp;exact okpb) (by simp) (by simp) (by simp) (by simp) hn_ (xs:= [pb]) (ys:= []) (bb:=false) (l':= [pa.k]) (by decide) (by decide)) ?_
 ·go_simp
 rintro e w7 ⟨rfl,F3,hT,-⟩
 have HSt7:=Lib.hid (hT)
 clear hT
 refine ⟨_,rfl,⟨HSt7.out.x.cell 0,HSt7.out.x.cell 1,HSt7.out.x.cell 2,HSt7.out.x.cell 3,HSt7.out.x.cell 4,HSt7.out.x.cell 5,HSt7.out.a.cell 0,HSt7.out.a.cell 1,HSt7.out.a.cell 2,HSt7.out.a.cell 3,HSt7.out.a.cell 4,HSt7.out.a.cell 5,HSt7.out.b.cell 0,HSt7.out.b.cell 1,HSt7.out.b.cell 2,HSt7.out.b.cell 3,HSt7.out.b.cell 4,HSt7.out.b.cell 5⟩,?_⟩
 iterate 4 (refine Eng.TW.tk ?_)
 refine Eng.TW.both ?_ ?_
 ·refine Eng.TW.call rfl rfl (by decide) (by kernel_rfl) ?_ (Shape_ B _ _ F3 _ HSt7.out.v (by simp)) ?_
  ·go_simp
  rintro e w8 ⟨y,P1,e1,P2,e2,rfl,hI,s1,s2,-,-,hf⟩
  have HI:=Lib.hid hI
  have HSt8:=Lib.hid (HSt7.out.yfr hf s1 s2)
  clear hI s1 s2 hf
  refine ⟨_,rfl,⟨HSt8.out.x.cell 0,HSt8.out.x.cell 1,HSt8.out.x.cell 2,HSt8.out.x.cell 3,HSt8.out.x.cell 4,HSt8.out.x.cell 5,HSt8.out.a.cell 0,HSt8.out.a.cell 1,HSt8.out.a.cell 2,HSt8.out.a.cell 3,HSt8.out.a.cell 4,HSt8.out.a.cell 5,HSt8.out.b.cell 0,HSt8.out.b.cell 1,HSt8.out.b.cell 2,HSt8.out.b.cell 3,HSt8.out.b.cell 4,HSt8.out.b.cell 5⟩,?_⟩
  have HSt9:=Lib.hid (HSt8.out.mk1 [pa])
  refine Eng.TW.step rfl rfl (by decide) (by kernel_rfl) (by go_simp;first|done|with_reducible rfl) (⟨HSt9.out.x.cell 0,HSt9.out.x.cell 1,HSt9.out.x.cell 2,HSt9.out.x.cell 3,HSt9.out.x.cell 4,HSt9.out.x.cell 5,HSt9.out.a.cell 0,HSt9.out.a.cell 1,HSt9.out.a.cell 2,HSt9.out.a.cell 3,HSt9.out.a.cell 4,HSt9.out.a.cell 5,HSt9.out.b.cell 0,HSt9.out.b.cell 1,HSt9.out.b.cell 2,HSt9.out.b.cell 3,HSt9.out.b.cell 4,HSt9.out.b.cell 5⟩) ?_
  have hSS:(w8.alloc (.cells #[.int .i64 0,.int .i64 0,.int .i64 1,.int .i64 1,.int .i64 0,.int .i64 1] TP)).cell? ⟨Bx,0,none⟩=some (.int .i64 3)∧(w8.alloc (.cells #[.int .i64 0,.int .i64 0,.int .i64 1,.int .i64 1,.int .i64 0,.int .i64 1] TP)).cell? ⟨Bx,1,none⟩=some (.int .i64 3)∧(w8.alloc (.cells #[.int .i64 0,.int .i64 0,.int .i64 1,.int .i64 1,.int .i64 0,.int .i64 1] TP)).cell? ⟨Bx,2,none⟩=some (.int .i64 0)∧(w8.alloc (.cells #[.int .i64 0,.int .i64 0,.int .i64 1,.int .i64 1,.int .i64 0,.int .i64 1] TP)).cell? ⟨Bx,3,none⟩=some (.int .i64 0)∧(w8.alloc (.cells #[.int .i64 0,.int .i64 0,.int .i64 1,.int .i64 1,.int .i64 0,.int .i64 1] TP)).cell? ⟨Bx,4,none⟩=some (.slice A1 2 c1)∧(w8.alloc (.cells #[.int .i64 0,.int .i64 0,.int .i64 1,.int .i64 1,.int .i64 0,.int .i64 1] TP)).cell? ⟨Bx,5,none⟩=some (.slice A2 2 c2)∧(w8.alloc (.cells #[.int .i64 0,.int .i64 0,.int .i64 1,.int .i64 1,.int .i64 0,.int .i64 1] TP)).cell? ⟨Ba,0,none⟩=some (.int .i64 0)∧(w8.alloc (.cells #[.int .i64 0,.int .i64 0,.int .i64 1,.int .i64 1,.int .i64 0,.int .i64 1] TP)).cell? ⟨Ba,1,none⟩=some (.int .i64 0)∧(w8.alloc (.cells #[.int .i64 0,.int .i64 0,.int .i64 1,.int .i64 1,.int .i64 0,.int .i64 1] TP)).cell? ⟨Ba,2,none⟩=some (.int .i64 1)∧(w8.alloc (.cells #[.int .i64 0,.int .i64 0,.int .i64 1,.int .i64 1,.int .i64 0,.int .i64 1] TP)).cell? ⟨Ba,3,none⟩=some (.int .i64 1)∧(w8.alloc (.cells #[.int .i64 0,.int .i64 0,.int .i64 1,.int .i64 1,.int .i64 0,.int .i64 1] TP)).cell? ⟨Ba,4,none⟩=some (.int .i64 0)∧(w8.alloc (.cells #[.int .i64 0,.int .i64 0,.int .i64 1,.int .i64 1,.int .i64 0,.int .i64 1] TP)).cell? ⟨Ba,5,none⟩=some (.int .i64 1)∧(w8.alloc (.cells #[.int .i64 0,.int .i64 0,.int .i64 1,.int .i64 1,.int .i64 0,.int .i64 1] TP)).cell? ⟨Bb,0,none⟩=some (.int .i64 0)∧(w8.alloc (.cells #[.int .i64 0,.int .i64 0,.int .i64 1,.int .i64 1,.int .i64 0,.int .i64 1] TP)).cell? ⟨Bb,1,none⟩=some (.int .i64 0)∧(w8.alloc (.cells #[.int .i64 0,.int .i64 0,.int .i64 1,.int .i64 1,.int .i64 0,.int .i64 1] TP)).cell? ⟨Bb,2,none⟩=some (.int .i64 1)∧(w8.alloc (.cells #[.int .i64 0,.int .i64 0,.int .i64 1,.int .i64 1,.int .i64 0,.int .i64 1] TP)).cell? ⟨Bb,3,none⟩=some (.int .i64 2)∧(w8.alloc (.cells #[.int .i64 0,.int .i64 0,.int .i64 1,.int .i64 1,.int .i64 0,.int .i64 1] TP)).cell? ⟨Bb,4,none⟩=some (.int .i64 0)∧(w8.alloc (.cells #[.int .i64 0,.int .i64 0,.int .i64 1,.int .i64 1,.int .i64 0,.int .i64 1] TP)).cell? ⟨Bb,5,none⟩=some (.int .i64 0):=⟨HSt9.out.x.cell 0,HSt9.out.x.cell 1,HSt9.out.x.cell 2,HSt9.out.x.cell 3,HSt9.out.x.cell 4,HSt9.out.x.cell 5,HSt9.out.a.cell 0,HSt9.out.a.cell 1,HSt9.out.a.cell 2,HSt9.out.a.cell 3,HSt9.out.a.cell 4,HSt9.out.a.cell 5,HSt9.out.b.cell 0,HSt9.out.b.cell 1,HSt9.out.b.cell 2,HSt9.out.b.cell 3,HSt9.out.b.cell 4,HSt9.out.b.cell 5⟩
  refine Eng.TW.call rfl rfl (by decide) (by kernel_rfl) ?_ (Of _ 1 [pa] _ ((HSt9.out.ex _ (List.mem_cons_self ..)).ar (by simp)).1 (by simp;exact okpa) (by simp)) ?_
  ·go_simp
  rintro e w10 ⟨y2,P3,e3,P4,e4,rfl,hI2,s3,s4,-,-,hf⟩
  have HS3:=Lib.hid s3;have HS4:=Lib.hid s4
  obtain rfl:=IsShp.ext HI.out hI2
  have HSt10:=Lib.hid (HSt9.out.fr hf)
  clear hI2 s3 s4 hf
  refine ⟨_,rfl,⟨HSt10.out.x.cell 0,HSt10.out.x.cell 1,HSt10.out.x.cell 2,HSt10.out.x.cell 3,HSt10.out.x.cell 4,HSt10.out.x.cell 5,HSt10.out.a.cell 0,HSt10.out.a.cell 1,HSt10.out.a.cell 2,HSt10.out.a.cell 3,HSt10.out.a.cell 4,HSt10.out.a.cell 5,HSt10.out.b.cell 0,HSt10.out.b.cell 1,HSt10.out.b.cell 2,HSt10.out.b.cell 3,HSt10.out.b.cell 4,HSt10.out.b.cell 5⟩,?_⟩
  refine Eng.TW.call rfl rfl (by decide) (by kernel_rfl) ?_ (Ref23.Same y P1 P2 P3 P4 e1 e2 e3 e4 _ (HSt10.out.y _ (List.mem_cons_self ..)) (HSt10.out.y _ (List.mem_cons_of_mem _ (List.mem_cons_self ..))) HS3.out HS4.out) ?_
  ·go_simp
  rintro e w11 ⟨rfl,hf⟩
  have HSt11:=Lib.hid (HSt10.out.fr hf)
  clear hf
  refine ⟨_,rfl,⟨HSt11.out.x.cell 0,HSt11.out.x.cell 1,HSt11.out.x.cell 2,HSt11.out.x.cell 3,HSt11.out.x.cell 4,HSt11.out.x.cell 5,HSt11.out.a.cell 0,HSt11.out.a.cell 1,HSt11.out.a.cell 2,HSt11.out.a.cell 3,HSt11.out.a.cell 4,HSt11.out.a.cell 5,HSt11.out.b.cell 0,HSt11.out.b.cell 1,HSt11.out.b.cell 2,HSt11.out.b.cell 3,HSt11.out.b.cell 4,HSt11.out.b.cell 5⟩,?_⟩
  refine Eng.TW.tk ?_
  refine Eng.TW.tk ?_
  refine Eng.TW.end_ [0,23,24,25,26,27,28,29,30,31,32,33,34,35,36,37,38,39,40,41,42,43,44,45,46,47,48,49,50,51,52,53,54,55,56,57,58,59,60,61,62,63,64,65,66,67,68] HN.out (by kernel_rfl) (by kernel_rfl) ?_
  exact HP.out _ _ rfl HSt11.out.fr0
 have HSt8:=Lib.hid (HSt7.out.mk1 [pa])
 refine Eng.TW.step rfl rfl (by decide) (by kernel_rfl) (by go_simp;first|done|with_reducible rfl) (⟨HSt8.out.x.cell 0,HSt8.out.x.cell 1,HSt8.out.x.cell 2,HSt8.out.x.cell 3,HSt8.out.x.cell 4,HSt8.out.x.cell 5,HSt8.out.a.cell 0,HSt8.out.a.cell 1,HSt8.out.a.cell 2,HSt8.out.a.cell 3,HSt8.out.a.cell 4,HSt8.out.a.cell 5,HSt8.out.b.cell 0,HSt8.out.b.cell 1,HSt8.out.b.cell 2,HSt8.out.b.cell 3,HSt8.out.b.cell 4,HSt8.out.b.cell 5⟩) ?_
 have hSS:(w7.alloc (.cells #[.int .i64 0,.int .i64 0,.int .i64 1,.int .i64 1,.int .i64 0,.int .i64 1] TP)).cell? ⟨Bx,0,none⟩=some (.int .i64 3)∧(w7.alloc (.cells #[.int .i64 0,.int .i64 0,.int .i64 1,.int .i64 1,.int .i64 0,.int .i64 1] TP)).cell? ⟨Bx,1,none⟩=some (.int .i64 3)∧(w7.alloc (.cells #[.int .i64 0,.int .i64 0,.int .i64 1,.int .i64 1,.int .i64 0,.int .i64 1] TP)).cell? ⟨Bx,2,none⟩=some (.int .i64 0)∧(w7.alloc (.cells #[.int .i64 0,.int .i64 0,.int .i64 1,.int .i64 1,.int .i64 0,.int .i64 1] TP)).cell? ⟨Bx,3,none⟩=some (.int .i64 0)∧(w7.alloc (.cells #[.int .i64 0,.int .i64 0,.int .i64 1,.int .i64 1,.int .i64 0,.int .i64 1] TP)).cell? ⟨Bx,4,none⟩=some (.slice A1 2 c1)∧(w7.alloc (.cells #[.int .i64 0,.int .i64 0,.int .i64 1,.int .i64 1,.int .i64 0,.int .i64 1] TP)).cell? ⟨Bx,5,none⟩=some (.slice A2 2 c2)∧(w7.alloc (.cells #[.int .i64 0,.int .i64 0,.int .i64 1,.int .i64 1,.int .i64 0,.int .i64 1] TP)).cell? ⟨Ba,0,none⟩=some (.int .i64 0)∧(w7.alloc (.cells #[.int .i64 0,.int .i64 0,.int .i64 1,.int .i64 1,.int .i64 0,.int .i64 1] TP)).cell? ⟨Ba,1,none⟩=some (.int .i64 0)∧(w7.alloc (.cells #[.int .i64 0,.int .i64 0,.int .i64 1,.int .i64 1,.int .i64 0,.int .i64 1] TP)).cell? ⟨Ba,2,none⟩=some (.int .i64 1)∧(w7.alloc (.cells #[.int .i64 0,.int .i64 0,.int .i64 1,.int .i64 1,.int .i64 0,.int .i64 1] TP)).cell? ⟨Ba,3,none⟩=some (.int .i64 1)∧(w7.alloc (.cells #[.int .i64 0,.int .i64 0,.int .i64 1,.int .i64 1,.int .i64 0,.int .i64 1] TP)).cell? ⟨Ba,4,none⟩=some (.int .i64 0)∧(w7.alloc (.cells #[.int .i64 0,.int .i64 0,.int .i64 1,.int .i64 1,.int .i64 0,.int .i64 1] TP)).cell? ⟨Ba,5,none⟩=some (.int .i64 1)∧(w7.alloc (.cells #[.int .i64 0,.int .i64 0,.int .i64 1,.int .i64 1,.int .i64 0,.int .i64 1] TP)).cell? ⟨Bb,0,none⟩=some (.int .i64 0)∧(w7.alloc (.cells #[.int .i64 0,.int .i64 0,.int .i64 1,.int .i64 1,.int .i64 0,.int .i64 1] TP)).cell? ⟨Bb,1,none⟩=some (.int .i64 0)∧(w7.alloc (.cells #[.int .i64 0,.int .i64 0,.int .i64 1,.int .i64 1,.int .i64 0,.int .i64 1] TP)).cell? ⟨Bb,2,none⟩=some (.int .i64 1)∧(w7.alloc (.cells #[.int .i64 0,.int .i64 0,.int .i64 1,.int .i64 1,.int .i64 0,.int .i64 1] TP)).cell? ⟨Bb,3,none⟩=some (.int .i64 2)∧(w7.alloc (.cells #[.int .i64 0,.int .i64 0,.int .i64 1,.int .i64 1,.int .i64 0,.int .i64 1] TP)).cell? ⟨Bb,4,none⟩=some (.int .i64 0)∧(w7.alloc (.cells #[.int .i64 0,.int .i64 0,.int .i64 1,.int .i64 1,.int .i64 0,.int .i64 1] TP)).cell? ⟨Bb,5,none⟩=some (.int .i64 0):=⟨HSt8.out.x.cell 0,HSt8.out.x.cell 1,HSt8.out.x.cell 2,HSt8.out.x.cell 3,HSt8.out.x.cell 4,HSt8.out.x.cell 5,HSt8.out.a.cell 0,HSt8.out.a.cell 1,HSt8.out.a.cell 2,HSt8.out.a.cell 3,HSt8.out.a.cell 4,HSt8.out.a.cell 5,HSt8.out.b.cell 0,HSt8.out.b.cell 1,HSt8.out.b.cell 2,HSt8.out.b.cell 3,HSt8.out.b.cell 4,HSt8.out.b.cell 5⟩
 refine Eng.TW.call rfl rfl (by decide) (by kernel_rfl) ?_ (Shape_ B _ _ F3 _ HSt8.out.v (by simp)) ?_
 ·go_simp
 rintro e w9 ⟨y,P1,e1,P2,e2,rfl,hI,s1,s2,-,-,hf⟩
 have HI:=Lib.hid hI
 have HSt9:=Lib.hid (HSt8.out.yfr hf s1 s2)
 clear hI s1 s2 hf
 refine ⟨_,rfl,⟨HSt9.out.x.cell 0,HSt9.out.x.cell 1,HSt9.out.x.cell 2,HSt9.out.x.cell 3,HSt9.out.x.cell 4,HSt9.out.x.cell 5,HSt9.out.a.cell 0,HSt9.out.a.cell 1,HSt9.out.a.cell 2,HSt9.out.a.cell 3,HSt9.out.a.cell 4,HSt9.out.a.cell 5,HSt9.out.b.cell 0,HSt9.out.b.cell 1,HSt9.out.b.cell 2,HSt9.out.b.cell 3,HSt9.out.b.cell 4,HSt9.out.b.cell 5⟩,?_⟩
 refine Eng.TW.call rfl rfl (by decide) (by kernel_rfl) ?_ (Of _ 1 [pa] _ ((HSt9.out.ex _ (List.mem_cons_self ..)).ar (by simp)).1 (by simp;exact okpa) (by simp)) ?_
 ·go_simp
 rintro e w10 ⟨y2,P3,e3,P4,e4,rfl,hI2,s3,s4,-,-,hf⟩
 have HS3:=Lib.hid s3;have HS4:=Lib.hid s4
 obtain rfl:=IsShp.ext HI.out hI2
 have HSt10:=Lib.hid (HSt9.out.fr hf)
 clear hI2 s3 s4 hf
 refine ⟨_,rfl,⟨HSt10.out.x.cell 0,HSt10.out.x.cell 1,HSt10.out.x.cell 2,HSt10.out.x.cell 3,HSt10.out.x.cell 4,HSt10.out.x.cell 5,HSt10.out.a.cell 0,HSt10.out.a.cell 1,HSt10.out.a.cell 2,HSt10.out.a.cell 3,HSt10.out.a.cell 4,HSt10.out.a.cell 5,HSt10.out.b.cell 0,HSt10.out.b.cell 1,HSt10.out.b.cell 2,HSt10.out.b.cell 3,HSt10.out.b.cell 4,HSt10.out.b.cell 5⟩,?_⟩
 refine Eng.TW.call rfl rfl (by decide) (by kernel_rfl) ?_ (Ref23.Same y P1 P2 P3 P4 e1 e2 e3 e4 _ (HSt10.out.y _ (List.mem_cons_self ..)) (HSt10.out.y _ (List.mem_cons_of_mem _ (List.mem_cons_self ..))) HS3.out HS4.out) ?_
 ·go_simp
 rintro e w11 ⟨rfl,hf⟩
 have HSt11:=Lib.hid (HSt10.out.fr hf)
 clear hf
 refine ⟨_,rfl,⟨HSt11.out.x.cell 0,HSt11.out.x.cell 1,HSt11.out.x.cell 2,HSt11.out.x.cell 3,HSt11.out.x.cell 4,HSt11.out.x.cell 5,HSt11.out.a.cell 0,HSt11.out.a.cell 1,HSt11.out.a.cell 2,HSt11.out.a.cell 3,HSt11.out.a.cell 4,HSt11.out.a.cell 5,HSt11.out.b.cell 0,HSt11.out.b.cell 1,HSt11.out.b.cell 2,HSt11.out.b.cell 3,HSt11.out.b.cell 4,HSt11.out.b.cell 5⟩,?_⟩
 refine Eng.TW.tk ?_
 refine Eng.TW.tk ?_
 refine Eng.TW.end_ [0,23,24,25,26,27,28,29,30,31,32,33,34,35,36,37,38,39,40,41,42,43,44,45,46,47,48,49,50,51,52,53,54,55,56,57,58,59,60,61,62,63,64,65,66,67,68] HN.out (by kernel_rfl) (by kernel_rfl) ?_
 exact HP.out _ _ rfl HSt11.out.fr0
theorem w4 {ops:Array Oper} (hops:Eng.fnOps Tryz.f47 4=ops) (a0:Act) (Q:Exit→Act→World→Prop) (w0 w:World) (B:Nat) (F:List Nat) (Ba Bb Bx:Nat) (A1 A2:Option Addr) (c1 c2:Nat) (hst:AW w0 w B 0 [] F Ba Bb Bx A1 A2 c1 c2 [] [])
  (hn:a0.tmps.size=69) (h_1:a0.tmps.getD 1 undef=.pointer (some ⟨Ba,0,none⟩)) (h_2:a0.tmps.getD 2 undef=.pointer (some ⟨Bb,0,none⟩)) (h_4:a0.tmps.getD 4 undef=.pointer (some ⟨B,0,none⟩))
  (hpost:∀ (x:Nat→Value) (w':World) (F':List Nat),x 5=.bool true→x 6=.bool true→AW w0 w' B (0+3*(0+2)+3*(1+0)) [pa.k] F' Ba Bb Bx A1 A2 c1 c2 [] []→Q .normal (Eng.setAll a0 [5,6,14,15,16,17,18,19,20,21,22] x) w'):
  (Code.region 4 ops true).wp prog Q a0 w:=by
 simp only [Eng.fnOps,Eng.regOps,Tryz.f47,Option.bind_some,Option.getD_some,Nat.reduceEqDiff,↓reduceIte] at hops
 subst hops
 have HSt:=Lib.hid (hst.fr (Fr.drew _ _))
 refine Eng.regionT (.take 0 (.take 1 (.take 5 (.alt 2 (.take 3 (.alt 4 (.alt 6 (.take 7 (.alt 8 (.take 9 (.take 10 (.done))) (.stop))) (.stop)) (.alt 6 (.take 7 (.alt 4 (.alt 8 (.take 9 (.take 10 (.done))) (.stop)) (.stop))) (.stop)))) (.alt 6 (.take 7 (.alt 2 (.take 3 (.alt 4 (.alt 8 (.take 9 (.take 10 (.done))) (.stop)) (.stop))) (.stop))) (.stop)))))) (fun w'=>w'.cell? ⟨Ba,0,none⟩=some (.int .i64 0)∧w'.cell? ⟨Ba,1,none⟩=some (.int .i64 0)∧w'.cell? ⟨Ba,2,none⟩=some (.int .i64 1)∧w'.cell? ⟨Ba,3,none⟩=some (.int .i64 1)∧w'.cell? ⟨Ba,4,none⟩=some (.int .i64 0)∧w'.cell? ⟨Ba,5,none⟩=some (.int .i64 1)∧w'.cell? ⟨Bb,0,none⟩=some (.int .i64 0)∧w'.cell? ⟨Bb,1,none⟩=some (.int .i64 0)∧w'.cell? ⟨Bb,2,none⟩=some (.int .i64 1)∧w'.cell? ⟨Bb,3,none⟩=some (.int .i64 2)∧w'.cell? ⟨Bb,4,none⟩=some (.int .i64 0)∧w'.cell? ⟨Bb,5,none⟩=some (.int .i64 0)) (by kernel_rfl) 69 hn (by kernel_rfl) (by kernel_rfl) (by kernel_rfl) (⟨HSt.out.a.cell 0,HSt.out.a.cell 1,HSt.out.a.cell 2,HSt.out.a.cell 3,HSt.out.a.cell 4,HSt.out.a.cell 5,HSt.out.b.cell 0,HSt.out.b.cell 1,HSt.out.b.cell 2,HSt.out.b.cell 3,HSt.out.b.cell 4,HSt.out.b.cell 5⟩) (fun a b ha hb=>?_)
 subst ha
 have hb1:b 1=.pointer (some ⟨Ba,0,none⟩):=(hb 1).symm.trans h_1
 have hb2:b 2=.pointer (some ⟨Bb,0,none⟩):=(hb 2).symm.trans h_2
 have hb4:b 4=.pointer (some ⟨B,0,none⟩):=(hb 4).symm.trans h_4
 clear hb h_1 h_2 h_4
 have HP:=Lib.hid hpost;have HN:=Lib.hid hn
 clear hpost hn
 iterate 3 (refine Eng.TW.tk ?_)
 refine Eng.TW.both ?_ ?_
 ·refine Eng.TW.step rfl rfl (by decide) (by kernel_rfl) (by go_simp;first|done|with_reducible rfl) (⟨(HSt.out.mk1 [pa,pb]).a.cell 0,(HSt.out.mk1 [pa,pb]).a.cell 1,(HSt.out.mk1 [pa,pb]).a.cell 2,(HSt.out.mk1 [pa,pb]).a.cell 3,(HSt.out.mk1 [pa,pb]).a.cell 4,(HSt.out.mk1 [pa,pb]).a.cell 5,(HSt.out.mk1 [pa,pb]).b.cell 0,(HSt.out.mk1 [pa,pb]).b.cell 1,(HSt.out.mk1 [pa,pb]).b.cell 2,(HSt.out.mk1 [pa,pb]).b.cell 3,(HSt.out.mk1 [pa,pb]).b.cell 4,(HSt.out.mk1 [pa,pb]).b.cell 5⟩) ?_
  have HSt2:=Lib.hid (HSt.out.mk1 [pa,pb])
  have hSS:(w.drew.alloc (.cells #[.int .i64 0,.int .i64 0,.int .i64 1,.int .i64 1,.int .i64 0,.int .i64 1,.int .i64 0,.int .i64 0,.int .i64 1,.int .i64 2,.int .i64 0,.int .i64 0] TP)).cell? ⟨Ba,0,none⟩=some (.int .i64 0)∧(w.drew.alloc (.cells #[.int .i64 0,.int .i64 0,.int .i64 1,.int .i64 1,.int .i64 0,.int .i64 1,.int .i64 0,.int .i64 0,.int .i64 1,.int .i64 2,.int .i64 0,.int .i64 0] TP)).cell? ⟨Ba,1,none⟩=some (.int .i64 0)∧(w.drew.alloc (.cells #[.int .i64 0,.int .i64 0,.int .i64 1,.int .i64 1,.int .i64 0,.int .i64 1,.int .i64 0,.int .i64 0,.int .i64 1,.int .i64 2,.int .i64 0,.int .i64 0] TP)).cell? ⟨Ba,2,none⟩=some (.int .i64 1)∧(w.drew.alloc (.cells #[.int .i64 0,.int .i64 0,.int .i64 1,.int .i64 1,.int .i64 0,.int .i64 1,.int .i64 0,.int .i64 0,.int .i64 1,.int .i64 2,.int .i64 0,.int .i64 0] TP)).cell? ⟨Ba,3,none⟩=some (.int .i64 1)∧(w.drew.alloc (.cells #[.int .i64 0,.int .i64 0,.int .i64 1,.int .i64 1,.int .i64 0,.int .i64 1,.int .i64 0,.int .i64 0,.int .i64 1,.int .i64 2,.int .i64 0,.int .i64 0] TP)).cell? ⟨Ba,4,none⟩=some (.int .i64 0)∧(w.drew.alloc (.cells #[.int .i64 0,.int .i64 0,.int .i64 1,.int .i64 1,.int .i64 0,.int .i64 1,.int .i64 0,.int .i64 0,.int .i64 1,.int .i64 2,.int .i64 0,.int .i64 0] TP)).cell? ⟨Ba,5,none⟩=some (.int .i64 1)∧(w.drew.alloc (.cells #[.int .i64 0,.int .i64 0,.int .i64 1,.int .i64 1,.int .i64 0,.int .i64 1,.int .i64 0,.int .i64 0,.int .i64 1,.int .i64 2,.int .i64 0,.int .i64 0] TP)).cell? ⟨Bb,0,none⟩=some (.int .i64 0)∧(w.drew.alloc (.cells #[.int .i64 0,.int .i64 0,.int .i64 1,.int .i64 1,.int .i64 0,.int .i64 1,.int .i64 0,.int .i64 0,.int .i64 1,.int .i64 2,.int .i64 0,.int .i64 0] TP)).cell? ⟨Bb,1,none⟩=some (.int .i64 0)∧(w.drew.alloc (.cells #[.int .i64 0,.int .i64 0,.int .i64 1,.int .i64 1,.int .i64 0,.int .i64 1,.int .i64 0,.int .i64 0,.int .i64 1,.int .i64 2,.int .i64 0,.int .i64 0] TP)).cell? ⟨Bb,2,none⟩=some (.int .i64 1)∧(w.drew.alloc (.cells #[.int .i64 0,.int .i64 0,.int .i64 1,.int .i64 1,.int .i64 0,.int .i64 1,.int .i64 0,.int .i64 0,.int .i64 1,.int .i64 2,.int .i64 0,.int .i64 0] TP)).cell? ⟨Bb,3,none⟩=some (.int .i64 2)∧(w.drew.alloc (.cells #[.int .i64 0,.int .i64 0,.int .i64 1,.int .i64 1,.int .i64 0,.int .i64 1,.int .i64 0,.int .i64 0,.int .i64 1,.int .i64 2,.int .i64 0,.int .i64 0] TP)).cell? ⟨Bb,4,none⟩=some (.int .i64 0)∧(w.drew.alloc (.cells #[.int .i64 0,.int .i64 0,.int .i64 1,.int .i64 1,.int .i64 0,.int .i64 1,.int .i64 0,.int .i64 0,.int .i64 1,.int .i64 2,.int .i64 0,.int .i64 0] TP)).cell? ⟨Bb,5,none⟩=some (.int .i64 0):=⟨HSt2.out.a.cell 0,HSt2.out.a.cell 1,HSt2.out.a.cell 2,HSt2.out.a.cell 3,HSt2.out.a.cell 4,HSt2.out.a.cell 5,HSt2.out.b.cell 0,HSt2.out.b.cell 1,HSt2.out.b.cell 2,HSt2.out.b.cell 3,HSt2.out.b.cell 4,HSt2.out.b.cell 5⟩
  refine Eng.TW.tk ?_
  refine Eng.TW.both ?_ ?_
  ·refine Eng.TW.call rfl rfl (by decide) (by kernel_rfl) ?_ (HSt2.out.app (Ar.nil _ _) ((HSt2.out.exx (xs:= [pa,pb]) (by first|exact List.mem_cons_self .. |exact List.mem_cons_of_mem _ (List.mem_cons_self ..))).ar (by simp)) (by simp) (by simp;exact ⟨okpa,okpb⟩) (by simp) (by simp) (by simp) (by simp) (xs:= []) (ys:= [pa,pb]) (bb:=true) (l':= [pa.k,pb.k]) (by decide) (by decide)) ?_
   ·go_simp
   rintro e w3 ⟨rfl,F2,hT,-⟩
   have HSt3:=Lib.hid (hT)
   clear hT
   refine ⟨_,rfl,⟨HSt3.out.a.cell 0,HSt3.out.a.cell 1,HSt3.out.a.cell 2,HSt3.out.a.cell 3,HSt3.out.a.cell 4,HSt3.out.a.cell 5,HSt3.out.b.cell 0,HSt3.out.b.cell 1,HSt3.out.b.cell 2,HSt3.out.b.cell 3,HSt3.out.b.cell 4,HSt3.out.b.cell 5⟩,?_⟩
   have HSt4:=Lib.hid (HSt3.out.mk1 [pb])
   refine Eng.TW.step rfl rfl (by decide) (by kernel_rfl) (by go_simp;first|done|with_reducible rfl) (⟨HSt4.out.a.cell 0,HSt4.out.a.cell 1,HSt4.out.a.cell 2,HSt4.out.a.cell 3,HSt4.out.a.cell 4,HSt4.out.a.cell 5,HSt4.out.b.cell 0,HSt4.out.b.cell 1,HSt4.out.b.cell 2,HSt4.out.b.cell 3,HSt4.out.b.cell 4,HSt4.out.b.cell 5⟩) ?_
   have hSS:(w3.alloc (.cells #[.int .i64 0,.int .i64 0,.int .i64 1,.int .i64 2,.int .i64 0,.int .i64 0] TP)).cell? ⟨Ba,0,none⟩=some (.int .i64 0)∧(w3.alloc (.cells #[.int .i64 0,.int .i64 0,.int .i64 1,.int .i64 2,.int .i64 0,.int .i64 0] TP)).cell? ⟨Ba,1,none⟩=some (.int .i64 0)∧(w3.alloc (.cells #[.int .i64 0,.int .i64 0,.int .i64 1,.int .i64 2,.int .i64 0,.int .i64 0] TP)).cell? ⟨Ba,2,none⟩=some (.int .i64 1)∧(w3.alloc (.cells #[.int .i64 0,.int .i64 0,.int .i64 1,.int .i64 2,.int .i64 0,.int .i64 0] TP)).cell? ⟨Ba,3,none⟩=some (.int .i64 1)∧(w3.alloc (.cells #[.int .i64 0,.int .i64 0,.int .i64 1,.int .i64 2,.int .i64 0,.int .i64 0] TP)).cell? ⟨Ba,4,none⟩=some (.int .i64 0)∧(w3.alloc (.cells #[.int .i64 0,.int .i64 0,.int .i64 1,.int .i64 2,.int .i64 0,.int .i64 0] TP)).cell? ⟨Ba,5,none⟩=some (.int .i64 1)∧(w3.alloc (.cells #[.int .i64 0,.int .i64 0,.int .i64 1,.int .i64 2,.int .i64 0,.int .i64 0] TP)).cell? ⟨Bb,0,none⟩=some (.int .i64 0)∧(w3.alloc (.cells #[.int .i64 0,.int .i64 0,.int .i64 1,.int .i64 2,.int .i64 0,.int .i64 0] TP)).cell? ⟨Bb,1,none⟩=some (.int .i64 0)∧(w3.alloc (.cells #[.int .i64 0,.int .i64 0,.int .i64 1,.int .i64 2,.int .i64 0,.int .i64 0] TP)).cell? ⟨Bb,2,none⟩=some (.int .i64 1)∧(w3.alloc (.cells #[.int .i64 0,.int .i64 0,.int .i64 1,.int .i64 2,.int .i64 0,.int .i64 0] TP)).cell? ⟨Bb,3,none⟩=some (.int .i64 2)∧(w3.alloc (.cells #[.int .i64 0,.int .i64 0,.int .i64 1,.int .i64 2,.int .i64 0,.int .i64 0] TP)).cell? ⟨Bb,4,none⟩=some (.int .i64 0)∧(w3.alloc (.cells #[.int .i64 0,.int .i64 0,.int .i64 1,.int .i64 2,.int .i64 0,.int .i64 0] TP)).cell? ⟨Bb,5,none⟩=some (.int .i64 0):=⟨HSt4.out.a.cell 0,HSt4.out.a.cell 1,HSt4.out.a.cell 2,HSt4.out.a.cell 3,HSt4.out.a.cell 4,HSt4.out.a.cell 5,HSt4.out.b.cell 0,HSt4.out.b.cell 1,HSt4.out.b.cell 2,HSt4.out.b.cell 3,HSt4.out.b.cell 4,HSt4.out.b.cell 5⟩
   refine Eng.TW.tk ?_
   refine Eng.TW.call rfl rfl (by decide) (by kernel_rfl) ?_ (HSt4.out.app ((HSt4.out.exx (xs:= [pb]) (by first|exact List.mem_cons_self .. |exact List.mem_cons_of_mem _ (List.mem_cons_self ..))).ar (by simp)) (Ar.nil _ _) (by simp;exact okpb) (by simp) (by simp) (by simp) (by simp) (by simp) (xs:= [pb]) (ys:= []) (bb:=true) (l':= [pa.k]) (by decide) (by decide)) ?_
   ·go_simp
   rintro e w5 ⟨rfl,F3,hT,-⟩
   have HSt5:=Lib.hid (hT)
   clear hT
   refine ⟨_,rfl,⟨HSt5.out.a.cell 0,HSt5.out.a.cell 1,HSt5.out.a.cell 2,HSt5.out.a.cell 3,HSt5.out.a.cell 4,HSt5.out.a.cell 5,HSt5.out.b.cell 0,HSt5.out.b.cell 1,HSt5.out.b.cell 2,HSt5.out.b.cell 3,HSt5.out.b.cell 4,HSt5.out.b.cell 5⟩,?_⟩
   refine Eng.TW.tk ?_
   refine Eng.TW.tk ?_
   refine Eng.TW.end_ [5,6,14,15,16,17,18,19,20,21,22] HN.out (by kernel_rfl) (by kernel_rfl) ?_
   exact HP.out _ _ F3 rfl rfl HSt5.out.less
  have HSt3:=Lib.hid (HSt2.out.mk1 [pb])
  refine Eng.TW.step rfl rfl (by decide) (by kernel_rfl) (by go_simp;first|done|with_reducible rfl) (⟨HSt3.out.a.cell 0,HSt3.out.a.cell 1,HSt3.out.a.cell 2,HSt3.out.a.cell 3,HSt3.out.a.cell 4,HSt3.out.a.cell 5,HSt3.out.b.cell 0,HSt3.out.b.cell 1,HSt3.out.b.cell 2,HSt3.out.b.cell 3,HSt3.out.b.cell 4,HSt3.out.b.cell 5⟩) ?_
  have hSS:((w.drew.alloc (.cells #[.int .i64 0,.int .i64 0,.int .i64 1,.int .i64 1,.int .i64 0,.int .i64 1,.int .i64 0,.int .i64 0,.int .i64 1,.int .i64 2,.int .i64 0,.int .i64 0] TP)).alloc (.cells #[.int .i64 0,.int .i64 0,.int .i64 1,.int .i64 2,.int .i64 0,.int .i64 0] TP)).cell? ⟨Ba,0,none⟩=some (.int .i64 0)∧((w.drew.alloc (.cells #[.int .i64 0,.int .i64 0,.int .i64 1,.int .i64 1,.int .i64 0,.int .i64 1,.int .i64 0,.int .i64 0,.int .i64 1,.int .i64 2,.int .i64 0,.int .i64 0] TP)).alloc (.cells #[.int .i64 0,.int .i64 0,.int .i64 1,.int .i64 2,.int .i64 0,.int .i64 0] TP)).cell? ⟨Ba,1,none⟩=some (.int .i64 0)∧((w.drew.alloc (.cells #[.int .i64 0,.int .i64 0,.int .i64 1,.int .i64 1,.int .i64 0,.int .i64 1,.int .i64 0,.int .i64 0,.int .i64 1,.int .i64 2,.int .i64 0,.int .i64 0] TP)).alloc (.cells #[.int .i64 0,.int .i64 0,.int .i64 1,.int .i64 2,.int .i64 0,.int .i64 0] TP)).cell? ⟨Ba,2,none⟩=some (.int .i64 1)∧((w.drew.alloc (.cells #[.int .i64 0,.int .i64 0,.int .i64 1,.int .i64 1,.int .i64 0,.int .i64 1,.int .i64 0,.int .i64 0,.int .i64 1,.int .i64 2,.int .i64 0,.int .i64 0] TP)).alloc (.cells #[.int .i64 0,.int .i64 0,.int .i64 1,.int .i64 2,.int .i64 0,.int .i64 0] TP)).cell? ⟨Ba,3,none⟩=some (.int .i64 1)∧((w.drew.alloc (.cells #[.int .i64 0,.int .i64 0,.int .i64 1,.int .i64 1,.int .i64 0,.int .i64 1,.int .i64 0,.int .i64 0,.int .i64 1,.int .i64 2,.int .i64 0,.int .i64 0] TP)).alloc (.cells #[.int .i64 0,.int .i64 0,.int .i64 1,.int .i64 2,.int .i64 0,.int .i64 0] TP)).cell? ⟨Ba,4,none⟩=some (.int .i64 0)∧((w.drew.alloc (.cells #[.int .i64 0,.int .i64 0,.int .i64 1,.int .i64 1,.int .i64 0,.int .i64 1,.int .i64 0,.int .i64 0,.int .i64 1,.int .i64 2,.int .i64 0,.int .i64 0] TP)).alloc (.cells #[.int .i64 0,.int .i64 0,.int .i64 1,.int .i64 2,.int .i64 0,.int .i64 0] TP)).cell? ⟨Ba,5,none⟩=some (.int .i64 1)∧((w.drew.alloc (.cells #[.int .i64 0,.int .i64 0,.int .i64 1,.int .i64 1,.int .i64 0,.int .i64 1,.int .i64 0,.int .i64 0,.int .i64 1,.int .i64 2,.int .i64 0,.int .i64 0] TP)).alloc (.cells #[.int .i64 0,.int .i64 0,.int .i64 1,.int .i64 2,.int .i64 0,.int .i64 0] TP)).cell? ⟨Bb,0,none⟩=some (.int .i64 0)∧((w.drew.alloc (.cells #[.int .i64 0,.int .i64 0,.int .i64 1,.int .i64 1,.int .i64 0,.int .i64 1,.int .i64 0,.int .i64 0,.int .i64 1,.int .i64 2,.int .i64 0,.int .i64 0] TP)).alloc (.cells #[.int .i64 0,.int .i64 0,.int .i64 1,.int .i64 2,.int .i64 0,.int .i64 0] TP)).cell? ⟨Bb,1,none⟩=some (.int .i64 0)∧((w.drew.alloc (.cells #[.int .i64 0,.int .i64 0,.int .i64 1,.int .i64 1,.int .i64 0,.int .i64 1,.int .i64 0,.int .i64 0,.int .i64 1,.int .i64 2,.int .i64 0,.int .i64 0] TP)).alloc (.cells #[.int .i64 0,.int .i64 0,.int .i64 1,.int .i64 2,.int .i64 0,.int .i64 0] TP)).cell? ⟨Bb,2,none⟩=some (.int .i64 1)∧((w.drew.alloc (.cells #[.int .i64 0,.int .i64 0,.int .i64 1,.int .i64 1,.int .i64 0,.int .i64 1,.int .i64 0,.int .i64 0,.int .i64 1,.int .i64 2,.int .i64 0,.int .i64 0] TP)).alloc (.cells #[.int .i64 0,.int .i64 0,.int .i64 1,.int .i64 2,.int .i64 0,.int .i64 0] TP)).cell? ⟨Bb,3,none⟩=some (.int .i64 2)∧((w.drew.alloc (.cells #[.int .i64 0,.int .i64 0,.int .i64 1,.int .i64 1,.int .i64 0,.int .i64 1,.int .i64 0,.int .i64 0,.int .i64 1,.int .i64 2,.int .i64 0,.int .i64 0] TP)).alloc (.cells #[.int .i64 0,.int .i64 0,.int .i64 1,.int .i64 2,.int .i64 0,.int .i64 0] TP)).cell? ⟨Bb,4,none⟩=some (.int .i64 0)∧((w.drew.alloc (.cells #[.int .i64 0,.int .i64 0,.int .i64 1,.int .i64 1,.int .i64 0,.int .i64 1,.int .i64 0,.int .i64 0,.int .i64 1,.int .i64 2,.int .i64 0,.int .i64 0] TP)).alloc (.cells #[.int .i64 0,.int .i64 0,.int .i64 1,.int .i64 2,.int .i64 0,.int .i64 0] TP)).cell? ⟨Bb,5,none⟩=some (.int .i64 0):=⟨HSt3.out.a.cell 0,HSt3.out.a.cell 1,HSt3.out.a.cell 2,HSt3.out.a.cell 3,HSt3.out.a.cell 4,HSt3.out.a.cell 5,HSt3.out.b.cell 0,HSt3.out.b.cell 1,HSt3.out.b.cell 2,HSt3.out.b.cell 3,HSt3.out.b.cell 4,HSt3.out.b.cell 5⟩
  refine Eng.TW.tk ?_
  refine Eng.TW.call rfl rfl (by decide) (by kernel_rfl) ?_ (HSt3.out.app (Ar.nil _ _) ((HSt3.out.exx (xs:= [pa,pb]) (by first|exact List.mem_cons_self .. |exact List.mem_cons_of_mem _ (List.mem_cons_self ..))).ar (by simp)) (by simp) (by simp;exact ⟨okpa,okpb⟩) (by simp) (by simp) (by simp) (by simp) (xs:= []) (ys:= [pa,pb]) (bb:=true) (l':= [pa.k,pb.k]) (by decide) (by decide)) ?_
  ·go_simp
  rintro e w4 ⟨rfl,F2,hT,-⟩
  have HSt4:=Lib.hid (hT)
  clear hT
  refine ⟨_,rfl,⟨HSt4.out.a.cell 0,HSt4.out.a.cell 1,HSt4.out.a.cell 2,HSt4.out.a.cell 3,HSt4.out.a.cell 4,HSt4.out.a.cell 5,HSt4.out.b.cell 0,HSt4.out.b.cell 1,HSt4.out.b.cell 2,HSt4.out.b.cell 3,HSt4.out.b.cell 4,HSt4.out.b.cell 5⟩,?_⟩
  refine Eng.TW.call rfl rfl (by decide) (by kernel_rfl) ?_ (HSt4.out.app ((HSt4.out.exx (xs:= [pb]) (by first|exact List.mem_cons_self .. |exact List.mem_cons_of_mem _ (List.mem_cons_self ..))).ar (by simp)) (Ar.nil _ _) (by simp;exact okpb) (by simp) (by simp) (by simp) (by simp) (by simp) (xs:= [pb]) (ys:= []) (bb:=true) (l':= [pa.k]) (by decide) (by decide)) ?_
  ·go_simp
  rintro e w5 ⟨rfl,F3,hT,-⟩
  have HSt5:=Lib.hid (hT)
  clear hT
  refine ⟨_,rfl,⟨HSt5.out.a.cell 0,HSt5.out.a.cell 1,HSt5.out.a.cell 2,HSt5.out.a.cell 3,HSt5.out.a.cell 4,HSt5.out.a.cell 5,HSt5.out.b.cell 0,HSt5.out.b.cell 1,HSt5.out.b.cell 2,HSt5.out.b.cell 3,HSt5.out.b.cell 4,HSt5.out.b.cell 5⟩,?_⟩
  refine Eng.TW.tk ?_
  refine Eng.TW.tk ?_
  refine Eng.TW.end_ [5,6,14,15,16,17,18,19,20,21,22] HN.out (by kernel_rfl) (by kernel_rfl) ?_
  exact HP.out _ _ F3 rfl rfl HSt5.out.less
 have HSt2:=Lib.hid (HSt.out.mk1 [pb])
 refine Eng.TW.step rfl rfl (by decide) (by kernel_rfl) (by go_simp;first|done|with_reducible rfl) (⟨HSt2.out.a.cell 0,HSt2.out.a.cell 1,HSt2.out.a.cell 2,HSt2.out.a.cell 3,HSt2.out.a.cell 4,HSt2.out.a.cell 5,HSt2.out.b.cell 0,HSt2.out.b.cell 1,HSt2.out.b.cell 2,HSt2.out.b.cell 3,HSt2.out.b.cell 4,HSt2.out.b.cell 5⟩) ?_
 have hSS:(w.drew.alloc (.cells #[.int .i64 0,.int .i64 0,.int .i64 1,.int .i64 2,.int .i64 0,.int .i64 0] TP)).cell? ⟨Ba,0,none⟩=some (.int .i64 0)∧(w.drew.alloc (.cells #[.int .i64 0,.int .i64 0,.int .i64 1,.int .i64 2,.int .i64 0,.int .i64 0] TP)).cell? ⟨Ba,1,none⟩=some (.int .i64 0)∧(w.drew.alloc (.cells #[.int .i64 0,.int .i64 0,.int .i64 1,.int .i64 2,.int .i64 0,.int .i64 0] TP)).cell? ⟨Ba,2,none⟩=some (.int .i64 1)∧(w.drew.alloc (.cells #[.int .i64 0,.int .i64 0,.int .i64 1,.int .i64 2,.int .i64 0,.int .i64 0] TP)).cell? ⟨Ba,3,none⟩=some (.int .i64 1)∧(w.drew.alloc (.cells #[.int .i64 0,.int .i64 0,.int .i64 1,.int .i64 2,.int .i64 0,.int .i64 0] TP)).cell? ⟨Ba,4,none⟩=some (.int .i64 0)∧(w.drew.alloc (.cells #[.int .i64 0,.int .i64 0,.int .i64 1,.int .i64 2,.int .i64 0,.int .i64 0] TP)).cell? ⟨Ba,5,none⟩=some (.int .i64 1)∧(w.drew.alloc (.cells #[.int .i64 0,.int .i64 0,.int .i64 1,.int .i64 2,.int .i64 0,.int .i64 0] TP)).cell? ⟨Bb,0,none⟩=some (.int .i64 0)∧(w.drew.alloc (.cells #[.int .i64 0,.int .i64 0,.int .i64 1,.int .i64 2,.int .i64 0,.int .i64 0] TP)).cell? ⟨Bb,1,none⟩=some (.int .i64 0)∧(w.drew.alloc (.cells #[.int .i64 0,.int .i64 0,.int .i64 1,.int .i64 2,.int .i64 0,.int .i64 0] TP)).cell? ⟨Bb,2,none⟩=some (.int .i64 1)∧(w.drew.alloc (.cells #[.int .i64 0,.int .i64 0,.int .i64 1,.int .i64 2,.int .i64 0,.int .i64 0] TP)).cell? ⟨Bb,3,none⟩=some (.int .i64 2)∧(w.drew.alloc (.cells #[.int .i64 0,.int .i64 0,.int .i64 1,.int .i64 2,.int .i64 0,.int .i64 0] TP)).cell? ⟨Bb,4,none⟩=some (.int .i64 0)∧(w.drew.alloc (.cells #[.int .i64 0,.int .i64 0,.int .i64 1,.int .i64 2,.int .i64 0,.int .i64 0] TP)).cell? ⟨Bb,5,none⟩=some (.int .i64 0):=⟨HSt2.out.a.cell 0,HSt2.out.a.cell 1,HSt2.out.a.cell 2,HSt2.out.a.cell 3,HSt2.out.a.cell 4,HSt2.out.a.cell 5,HSt2.out.b.cell 0,HSt2.out.b.cell 1,HSt2.out.b.cell 2,HSt2.out.b.cell 3,HSt2.out.b.cell 4,HSt2.out.b.cell 5⟩
 refine Eng.TW.tk ?_
 have HSt3:=Lib.hid (HSt2.out.mk1 [pa,pb])
 refine Eng.TW.step rfl rfl (by decide) (by kernel_rfl) (by go_simp;first|done|with_reducible rfl) (⟨HSt3.out.a.cell 0,HSt3.out.a.cell 1,HSt3.out.a.cell 2,HSt3.out.a.cell 3,HSt3.out.a.cell 4,HSt3.out.a.cell 5,HSt3.out.b.cell 0,HSt3.out.b.cell 1,HSt3.out.b.cell 2,HSt3.out.b.cell 3,HSt3.out.b.cell 4,HSt3.out.b.cell 5⟩) ?_
 have hSS:((w.drew.alloc (.cells #[.int .i64 0,.int .i64 0,.int .i64 1,.int .i64 2,.int .i64 0,.int .i64 0] TP)).alloc (.cells #[.int .i64 0,.int .i64 0,.int .i64 1,.int .i64 1,.int .i64 0,.int .i64 1,.int .i64 0,.int .i64 0,.int .i64 1,.int .i64 2,.int .i64 0,.int .i64 0] TP)).cell? ⟨Ba,0,none⟩=some (.int .i64 0)∧((w.drew.alloc (.cells #[.int .i64 0,.int .i64 0,.int .i64 1,.int .i64 2,.int .i64 0,.int .i64 0] TP)).alloc (.cells #[.int .i64 0,.int .i64 0,.int .i64 1,.int .i64 1,.int .i64 0,.int .i64 1,.int .i64 0,.int .i64 0,.int .i64 1,.int .i64 2,.int .i64 0,.int .i64 0] TP)).cell? ⟨Ba,1,none⟩=some (.int .i64 0)∧((w.drew.alloc (.cells #[.int .i64 0,.int .i64 0,.int .i64 1,.int .i64 2,.int .i64 0,.int .i64 0] TP)).alloc (.cells #[.int .i64 0,.int .i64 0,.int .i64 1,.int .i64 1,.int .i64 0,.int .i64 1,.int .i64 0,.int .i64 0,.int .i64 1,.int .i64 2,.int .i64 0,.int .i64 0] TP)).cell? ⟨Ba,2,none⟩=some (.int .i64 1)∧((w.drew.alloc (.cells #[.int .i64 0,.int .i64 0,.int .i64 1,.int .i64 2,.int .i64 0,.int .i64 0] TP)).alloc (.cells #[.int .i64 0,.int .i64 0,.int .i64 1,.int .i64 1,.int .i64 0,.int .i64 1,.int .i64 0,.int .i64 0,.int .i64 1,.int .i64 2,.int .i64 0,.int .i64 0] TP)).cell? ⟨Ba,3,none⟩=some (.int .i64 1)∧((w.drew.alloc (.cells #[.int .i64 0,.int .i64 0,.int .i64 1,.int .i64 2,.int .i64 0,.int .i64 0] TP)).alloc (.cells #[.int .i64 0,.int .i64 0,.int .i64 1,.int .i64 1,.int .i64 0,.int .i64 1,.int .i64 0,.int .i64 0,.int .i64 1,.int .i64 2,.int .i64 0,.int .i64 0] TP)).cell? ⟨Ba,4,none⟩=some (.int .i64 0)∧((w.drew.alloc (.cells #[.int .i64 0,.int .i64 0,.int .i64 1,.int .i64 2,.int .i64 0,.int .i64 0] TP)).alloc (.cells #[.int .i64 0,.int .i64 0,.int .i64 1,.int .i64 1,.int .i64 0,.int .i64 1,.int .i64 0,.int .i64 0,.int .i64 1,.int .i64 2,.int .i64 0,.int .i64 0] TP)).cell? ⟨Ba,5,none⟩=some (.int .i64 1)∧((w.drew.alloc (.cells #[.int .i64 0,.int .i64 0,.int .i64 1,.int .i64 2,.int .i64 0,.int .i64 0] TP)).alloc (.cells #[.int .i64 0,.int .i64 0,.int .i64 1,.int .i64 1,.int .i64 0,.int .i64 1,.int .i64 0,.int .i64 0,.int .i64 1,.int .i64 2,.int .i64 0,.int .i64 0] TP)).cell? ⟨Bb,0,none⟩=some (.int .i64 0)∧((w.drew.alloc (.cells #[.int .i64 0,.int .i64 0,.int .i64 1,.int .i64 2,.int .i64 0,.int .i64 0] TP)).alloc (.cells #[.int .i64 0,.int .i64 0,.int .i64 1,.int .i64 1,.int .i64 0,.int .i64 1,.int .i64 0,.int .i64 0,.int .i64 1,.int .i64 2,.int .i64 0,.int .i64 0] TP)).cell? ⟨Bb,1,none⟩=some (.int .i64 0)∧((w.drew.alloc (.cells #[.int .i64 0,.int .i64 0,.int .i64 1,.int .i64 2,.int .i64 0,.int .i64 0] TP)).alloc (.cells #[.int .i64 0,.int .i64 0,.int .i64 1,.int .i64 1,.int .i64 0,.int .i64 1,.int .i64 0,.int .i64 0,.int .i64 1,.int .i64 2,.int .i64 0,.int .i64 0] TP)).cell? ⟨Bb,2,none⟩=some (.int .i64 1)∧((w.drew.alloc (.cells #[.int .i64 0,.int .i64 0,.int .i64 1,.int .i64 2,.int .i64 0,.int .i64 0] TP)).alloc (.cells #[.int .i64 0,.int .i64 0,.int .i64 1,.int .i64 1,.int .i64 0,.int .i64 1,.int .i64 0,.int .i64 0,.int .i64 1,.int .i64 2,.int .i64 0,.int .i64 0] TP)).cell? ⟨Bb,3,none⟩=some (.int .i64 2)∧((w.drew.alloc (.cells #[.int .i64 0,.int .i64 0,.int .i64 1,.int .i64 2,.int .i64 0,.int .i64 0] TP)).alloc (.cells #[.int .i64 0,.int .i64 0,.int .i64 1,.int .i64 1,.int .i64 0,.int .i64 1,.int .i64 0,.int .i64 0,.int .i64 1,.int .i64 2,.int .i64 0,.int .i64 0] TP)).cell? ⟨Bb,4,none⟩=some (.int .i64 0)∧((w.drew.alloc (.cells #[.int .i64 0,.int .i64 0,.int .i64 1,.int .i64 2,.int .i64 0,.int .i64 0] TP)).alloc (.cells #[.int .i64 0,.int .i64 0,.int .i64 1,.int .i64 1,.int .i64 0,.int .i64 1,.int .i64 0,.int .i64 0,.int .i64 1,.int .i64 2,.int .i64 0,.int .i64 0] TP)).cell? ⟨Bb,5,none⟩=some (.int .i64 0):=⟨HSt3.out.a.cell 0,HSt3.out.a.cell 1,HSt3.out.a.cell 2,HSt3.out.a.cell 3,HSt3.out.a.cell 4,HSt3.out.a.cell 5,HSt3.out.b.cell 0,HSt3.out.b.cell 1,HSt3.out.b.cell 2,HSt3.out.b.cell 3,HSt3.out.b.cell 4,HSt3.out.b.cell 5⟩
 refine Eng.TW.tk ?_
 refine Eng.TW.call rfl rfl (by decide) (by kernel_rfl) ?_ (HSt3.out.app (Ar.nil _ _) ((HSt3.out.exx (xs:= [pa,pb]) (by first|exact List.mem_cons_self .. |exact List.mem_cons_of_mem _ (List.mem_cons_self ..))).ar (by simp)) (by simp) (by simp;exact ⟨okpa,okpb⟩) (by simp) (by simp) (by simp) (by simp) (xs:= []) (ys:= [pa,pb]) (bb:=true) (l':= [pa.k,pb.k]) (by decide) (by decide)) ?_
 ·go_simp
 rintro e w4 ⟨rfl,F2,hT,-⟩
 have HSt4:=Lib.hid (hT)
 clear hT
 refine ⟨_,rfl,⟨HSt4.out.a.cell 0,HSt4.out.a.cell 1,HSt4.out.a.cell 2,HSt4.out.a.cell 3,HSt4.out.a.cell 4,HSt4.out.a.cell 5,HSt4.out.b.cell 0,HSt4.out.b.cell 1,HSt4.out.b.cell 2,HSt4.out.b.cell 3,HSt4.out.b.cell 4,HSt4.out.b.cell 5⟩,?_⟩
 refine Eng.TW.call rfl rfl (by decide) (by kernel_rfl) ?_ (HSt4.out.app ((HSt4.out.exx (xs:= [pb]) (by first|exact List.mem_cons_self .. |exact List.mem_cons_of_mem _ (List.mem_cons_self ..))).ar (by simp)) (Ar.nil _ _) (by simp;exact okpb) (by simp) (by simp) (by simp) (by simp) (by simp) (xs:= [pb]) (ys:= []) (bb:=true) (l':= [pa.k]) (by decide) (by decide)) ?_
 ·go_simp
 rintro e w5 ⟨rfl,F3,hT,-⟩
 have HSt5:=Lib.hid (hT)
 clear hT
 refine ⟨_,rfl,⟨HSt5.out.a.cell 0,HSt5.out.a.cell 1,HSt5.out.a.cell 2,HSt5.out.a.cell 3,HSt5.out.a.cell 4,HSt5.out.a.cell 5,HSt5.out.b.cell 0,HSt5.out.b.cell 1,HSt5.out.b.cell 2,HSt5.out.b.cell 3,HSt5.out.b.cell 4,HSt5.out.b.cell 5⟩,?_⟩
 refine Eng.TW.tk ?_
 refine Eng.TW.tk ?_
 refine Eng.TW.end_ [5,6,14,15,16,17,18,19,20,21,22] HN.out (by kernel_rfl) (by kernel_rfl) ?_
 exact HP.out _ _ F3 rfl rfl HSt5.out.less
end Law23
set_option maxRecDepth 100000
set_option maxHeartbeats 400000
namespace Law23
open BagP Bag ShapeP Fm Shape Ref23
attribute [local go_sem] Eng.ev Eng.getO_cons Eng.getO_nil
theorem aw_cells:([pa,pb,pb].flatMap plc).toArray= #[.int .i64 0,.int .i64 0,.int .i64 1,.int .i64 1,.int .i64 0,.int .i64 1,.int .i64 0,.int .i64 0,.int .i64 1,.int .i64 2,.int .i64 0,.int .i64 0,.int .i64 0,.int .i64 0,.int .i64 1,.int .i64 2,.int .i64 0,.int .i64 0]:=rfl
theorem aw_of (W:World) (r:Nat) (hr:W.heap.size=r):Calls prog 48 #[.slice (some ⟨r,0,none⟩) 3 3] (W.alloc (.cells #[.int .i64 0,.int .i64 0,.int .i64 1,.int .i64 1,.int .i64 0,.int .i64 1,.int .i64 0,.int .i64 0,.int .i64 1,.int .i64 2,.int .i64 0,.int .i64 0,.int .i64 0,.int .i64 0,.int .i64 1,.int .i64 2,.int .i64 0,.int .i64 0] TP)) (ShPost [pa.k,pb.k,pb.k] (W.alloc (.cells #[.int .i64 0,.int .i64 0,.int .i64 1,.int .i64 1,.int .i64 0,.int .i64 1,.int .i64 0,.int .i64 0,.int .i64 1,.int .i64 2,.int .i64 0,.int .i64 0,.int .i64 0,.int .i64 0,.int .i64 1,.int .i64 2,.int .i64 0,.int .i64 0] TP))):=by
 subst hr
 have h:=Of (some ⟨W.heap.size,0,none⟩) 3 [pa,pb,pb] (W.alloc (.cells ([pa,pb,pb].flatMap plc).toArray TP)) (sl_row W TP ([pa,pb,pb].flatMap plc) 3 6 rfl (by simp [maxLen])) (by simp;exact ⟨okpa,okpb⟩) (by simp)
 rw [aw_cells] at h
 exact h
theorem aw_start (w w1 W:World) (A1 A2:Option Addr) (c1 c2:Nat) (hW:W=((w.alloc (.cells (pla pa) TP)).alloc (.cells (pla pb) TP)).alloc (.cells #[.int .i64 0,.int .i64 0,.int .i64 1,.int .i64 1,.int .i64 0,.int .i64 1,.int .i64 0,.int .i64 0,.int .i64 1,.int .i64 2,.int .i64 0,.int .i64 0,.int .i64 0,.int .i64 0,.int .i64 1,.int .i64 2,.int .i64 0,.int .i64 0] TP)) (hf:Fr (fun _=>False) W w1) (s1:Cs w1 A1 c1 x3.D) (s2:Cs w1 A2 c2 x3.F):
  AW w ((w1.alloc (.cells (sha x3 A1 A2 c1 c2) TSp)).alloc (.cells zeroV TV)) (w1.heap.size+1) 0 [] [w1.heap.size+1] w.heap.size (w.heap.size+1) w1.heap.size A1 A2 c1 c2 [] []:=by
 have fa:=fun (w:World) (o:Obj)=>Fr.alloc (fun _=>False) w o
 have f1:Fr (fun _=>False) ((w.alloc (.cells (pla pa) TP)).alloc (.cells (pla pb) TP)) w1:=by
  rw [hW] at hf
  exact (fa _ _).trans hf (fun _ _ h=>h) (fun _ _ h=>h)
 have g:=(fa w1 (.cells (sha x3 A1 A2 c1 c2) TSp)).trans (fa _ (.cells zeroV TV)) (T:=fun _=>False) (fun _ _ h=>h) (fun _ _ h=>h)
 have f2:=f1.trans g (T:=fun _=>False) (fun _ _ h=>h) (fun _ _ h=>h)
 have hsz:=f1.size
 simp only [World.size_alloc] at hsz
 have hv:=VB.new (w1.alloc (.cells (sha x3 A1 A2 c1 c2) TSp)) 0
 rw [World.size_alloc] at hv
 have hb:=(Bk.new (w.alloc (.cells (pla pa) TP)) (pla pb) TP).fr f2 (fun _ _ h=>h)
 rw [World.size_alloc] at hb
 have n1:=fun a ha=>s1.lt (by simp) (a:=a) ha
 have n2:=fun a ha=>s2.lt (by simp) (a:=a) ha
 exact ⟨hv,(Bk.new w (pla pa) TP).fr ((fa _ _).trans f2 (T:=fun _=>False) (fun _ _ h=>h) (fun _ _ h=>h)) (fun _ _ h=>h),hb,(Bk.new w1 _ TSp).fr (fa _ _) (fun _ _ h=>h),s1.fr g (fun _ _ h=>h),s2.fr g (fun _ _ h=>h),
  by simp;omega,by simp;omega,by simp,fun a ha=>by have:=n1 a ha;simp;omega,fun a ha=>by have:=n2 a ha;simp;omega,by simp;omega,
  ((fa w (.cells (pla pa) TP)).trans (fa _ (.cells (pla pb) TP)) (T:=fun _=>False) (fun _ _ h=>h) (fun _ _ h=>h)).trans f2 (fun _ _ h=>h) (fun _ _ h=>h),by simp,by simp⟩
theorem awake (w:World):Calls prog 47 #[] w fun e w'=>e=.returned (.bool true)∧Fr (fun _=>False) w w':=by
 have HR:=Lib.hid aw_of
 go_enter func47,ntmps47
 go_wp2_with fail
 refine (HR.out _ _ (by simp)).mono ?_
 rintro e w1 ⟨y,A1,c1,A2,c2,rfl,hI,s1,s2,-,-,hf⟩
 obtain rfl:=IsShp.ext hI shp3
 have H0:=Lib.hid (aw_start w w1 _ A1 A2 c1 c2 rfl hf s1 s2)
 clear hI s1 s2 hf HR
 go_upto_region 4 with (fail)
 refine w4 (by kernel_rfl) _ _ w _ (w1.heap.size+1) [w1.heap.size+1] w.heap.size (w.heap.size+1) w1.heap.size A1 A2 c1 c2 H0.out rfl rfl rfl rfl ?_
 intro x w2 F' h5 h6 h
 simp only [Eng.setAll,Act.put,List.setIfInBounds_toArray,List.set_cons_succ,List.set_cons_zero]
 rw [h5,h6]
 have H2:=Lib.hid h
 clear h5 h6 h H0
 go_upto_region 5 with (fail)
 refine w5 (by kernel_rfl) _ _ w w2 (w1.heap.size+1) _ F' w.heap.size (w.heap.size+1) w1.heap.size A1 A2 c1 c2 H2.out (by simp) rfl rfl rfl rfl rfl rfl rfl ?_
 intro y w3 h0 hf
 simp only [Eng.setAll,Act.put,List.setIfInBounds_toArray,List.set_cons_succ,List.set_cons_zero]
 rw [h0]
 have HF:=Lib.hid hf
 clear h0 hf H2
 go_wp2_with fail
 go_ret
 exact ⟨rfl,HF.out⟩
end Law23
set_option maxRecDepth 100000
set_option maxHeartbeats 8000000
namespace Law23
open KeyP PackP SetP SetW SetF Sli Delta KidsP Cls KdO Fst Drd Wrk Fol
open Shape (VB ShPost Cs shv okK)
open ShapeP (K3 Shp IsShp hasB appL)
open ClsW (spn RefSpans)
open Law22 (As Pl_ LL PlacesF few_len)
attribute [local go_sem] Eng.ev Eng.getO_cons Eng.getO_nil
abbrev zF:Array Value:= #[.pointer none,.int .i64 0,.pointer none,.int .i64 0,.pointer none,.int .i64 0]
theorem low_b {L:List Sn} (hs:Srs L) {y:Sn} (hy:y∈L):0≤(cdt L y).2.1∧(cdt L y).2.1≤L.length:=by
 obtain ⟨s,z,-,-,-,-,-,h1,h2⟩:=cdt_way hs hy
 exact ⟨h2,h1⟩
theorem wf_sm {n:Int} (h0:0≤n) (h1:n≤10000000):wfI n:=by
 show (Lit.int .i64 n).wf=true
 simp only [Lit.wf,Bool.and_eq_true,decide_eq_true_eq]
 have e1:IntKind.i64.min= -9223372036854775808:=rfl
 have e2:IntKind.i64.max=9223372036854775807:=rfl
 omega
theorem okq {L:List Sn} (hs:Srs L) (hl:L.length≤900) {y:Sn} (hy:y∈L):okK (toPl (plq L y)).k:=by
 have hb:=low_b hs hy
 have hf:=fan_le (L:=L) y
 have hc:=cdt_cls (L:=L) y
 refine ⟨?_,?_,?_⟩
 ·exact wf_sm (n:=(cdt L y).1) (by omega) (by omega)
 ·exact wf_sm (n:=(cdt L y).2.1) hb.1 (by omega)
 ·exact wf_sm (n:=((fan L y:Nat):Int)) (by omega) (by omega)
theorem okm {A B:List Sn} (hs:Srs A) (hl:A.length≤900):∀x∈(mvd A B).map toPl,okK x.k:=fun x hx=>by
 obtain ⟨p,hp,rfl⟩:=List.mem_map.1 hx
 unfold mvd at hp
 obtain ⟨y,hy,rfl⟩:=List.mem_map.1 hp
 exact okq hs hl (List.mem_filter.1 hy).1
theorem flat_pl (P:List Pq):(P.map toPl).flatMap Shape.plc=pcs P:=by rw [List.flatMap_map]
theorem VApply {w:World} {B n c1 c2:Nat} {l:List K3} {F:List Nat} {A1 A2:Option Addr} {P Q:List Pq} (h:VB w B n l F) (h1:Sl w 6 A1 P.length c1 (pcs P)) (h2:Sl w 6 A2 Q.length c2 (pcs Q)) (a1:∀a,A1=some a→a.block∉F) (a2:∀a,A2=some a→a.block∉F) (k1:∀x∈P.map toPl,okK x.k) (k2:∀x∈Q.map toPl,okK x.k) (hx:P.length≤1000) (hy:Q.length≤1000) (hl:l.length≤1000) (hn:n≤100000):
  Calls prog 50 #[.pointer (some ⟨B,0,none⟩),.agg #[.slice A1 P.length c1,.slice A2 Q.length c2]] w fun e w'=>e=.returned (.bool (hasB l (ks P)))∧∃F',VB w' B (n+3*(P.length+Q.length)) (appL l (ks P) (ks Q)) F'∧Tn F F' w w':=by
 have:=Shape.Apply B n l F A1 A2 c1 c2 (P.map toPl) (Q.map toPl) w h ⟨by rw [flat_pl,List.length_map];exact h1,fun _=>a1⟩ ⟨by rw [flat_pl,List.length_map];exact h2,fun _=>a2⟩ k1 k2 (by rw [List.length_map];omega) (by rw [List.length_map];omega) (by rw [List.length_map];omega) (by rw [List.length_map,List.length_map];omega)
 rwa [List.length_map,List.length_map] at this
theorem VOf {w:World} {A:Option Addr} {c n:Nat} {P:List Pq} (hn:P.length=n) (h:Sl w 6 A n c (pcs P)) (hk:∀x∈P.map toPl,okK x.k) (hl:n≤1000):Calls prog 48 #[.slice A n c] w (ShPost (ks P) w):=by
 subst hn
 have:=Shape.Of A c (P.map toPl) w (by rw [flat_pl,List.length_map];exact h) hk (by rw [List.length_map];exact hl)
 rwa [List.length_map] at this
theorem ApplyS {A:World} {B:Nat} {P Q:List Sn} {F:List Nat} {A1 A2:Option Addr} {k1 k2:Nat} (h:FB A B (P.map br) (pm (P.map br)) F) (hP:As P) (hQ:As Q) (gP:∀x∈P,gd x) (gQ:∀x∈Q,gd x) (lP:P.length≤900) (lQ:Q.length≤900) (hd:RdD A ⟨A1,k1,wout Q P,A2,k2,wout P Q⟩) (ha:ApD ⟨A1,k1,wout Q P,A2,k2,wout P Q⟩ F):
  Calls prog 31 #[.pointer (some ⟨B,0,none⟩),(Dl.mk A1 k1 (wout Q P) A2 k2 (wout P Q)).v] A fun e w'=>∃A3 c3 A4 c4 n F',e=.returned (.tuple #[.agg #[.slice A3 (mvd P Q).length c3,.slice A4 (mvd Q P).length c4],.int .i64 n,.int .i64 0])∧
   FB w' B (Q.map br) (pm (Q.map br)) F'∧Tn F F' A w'∧Sl w' 6 A3 (mvd P Q).length c3 (pcs (mvd P Q))∧Sl w' 6 A4 (mvd Q P).length c4 (pcs (mvd Q P))∧(∀a,A3=some a→A.heap.size≤a.block)∧(∀a,A4=some a→A.heap.size≤a.block):=by
 have hn:=bet_next hP.ok.srs hQ.ok.srs gP gQ
 have l1:(wout Q P).length≤10000:=by have:=List.length_filter_le (fun x=> !decide (x∈Q)) P;unfold wout;omega
 have l2:(wout P Q).length≤10000:=by have:=List.length_filter_le (fun x=> !decide (x∈P)) Q;unfold wout;omega
 refine (Apply A h hd ha (by rw [List.length_map];omega) l1 l2).mono ?_
 rintro e w' ⟨hx,-⟩
 obtain ⟨A3,c3,A4,c4,n,F',rfl,g1,g2,g3,g4,-,-,-,-⟩:=hx (Law22.bet_may hP hQ gP gQ)
 rw [hn,mvd_br,mvd_br] at *
 have q1:=ownsRow_blk g1;have q2:=ownsRow_blk g2
 obtain ⟨A',c',he,h3,-⟩:=Sl.of_own g1
 cases he
 obtain ⟨A',c',he,h4,-⟩:=Sl.of_own g2
 cases he
 exact ⟨A3,c3,A4,c4,n,F',rfl,g3,g4,h3,h4,fun a ha=>by subst ha;exact (q1 a.block rfl).1,fun a ha=>by subst ha;exact (q2 a.block rfl).1⟩
theorem apDn {A1 A2:Option Addr} {k1 k2:Nat} {O I:List Sn} {F:List Nat} {lo:Nat} (hF:∀b∈F,b<lo) (h1:∀a,A1=some a→lo≤a.block) (h2:∀a,A2=some a→lo≤a.block):ApD ⟨A1,k1,O,A2,k2,I⟩ F:=
 ⟨fun _ a e hb=>by have:=hF _ hb;have:=h1 a e;omega,fun _ a e hb=>by have:=hF _ hb;have:=h2 a e;omega⟩
structure SFo (w0 w:World) (Bf Bv n:Nat) (P:List Sn) (F Fv:List Nat) (lk:List K3) (A:Option Addr) (c:Nat):Prop where
 b:Below w0.heap.size w0 w
 f:FB w Bf (P.map br) (pm (P.map br)) F
 v:VB w Bv n lk Fv
 d:∀x∈F,x∉Fv
 lo:(∀x∈F,w0.heap.size≤x)∧∀x∈Fv,w0.heap.size≤x
 k:lk.Perm (ks (P.map (plq P)))
 l:Ls w A c P
 s:As P
 m:P.length≤20
 na:∀q,A=some q→q.block∉F∧q.block∉Fv∧q.block<w.heap.size
theorem SFo.keep {w0 w w':World} {Bf Bv n:Nat} {P:List Sn} {F Fv:List Nat} {lk:List K3} {A:Option Addr} {c:Nat} (h:SFo w0 w Bf Bv n P F Fv lk A c) (hf:Fr (fun _=>False) w w'):SFo w0 w' Bf Bv n P F Fv lk A c:=
 ⟨h.b.trans (hf.below h.b.size (fun _ _ h=>h)),h.f.fr hf (fun _ _ h=>h),h.v.fr hf (fun _ _ h=>h),h.d,h.lo,h.k,h.l.keep hf,h.s,h.m,fun q hq=>⟨(h.na q hq).1,(h.na q hq).2.1,Nat.lt_of_lt_of_le (h.na q hq).2.2 hf.size⟩⟩
theorem follows (A0:Option Addr) (c0:Nat) (l:List Lv) (w:World) (h:LL w A0 c0 l):Calls prog 12 #[.slice A0 l.length c0] w fun e w'=>e=.returned (.bool true)∧Below w.heap.size w w':=by
 have HL:=Lib.hid h
 have hlm:l.length≤9223372036854775807:=by have:=h.s.2.1;have:=h.s.2.2.1;unfold maxLen at this;omega
 clear h
 go_enter func12,ntmps12
 by_cases h8:l.length>8
 ·have q1:decide ((l.length:Int)>8)=true:=decide_eq_true (by omega)
  have q2:decide ((8:Int)<(l.length:Int))=true:=decide_eq_true (by omega)
  go_wp2_with fail
  refine (awake w).mono ?_
  rintro e w2 ⟨rfl,hb⟩
  have HB:=Lib.hid (hb.below (Nat.le_refl _) (fun _ _ h=>h))
  clear hb
  go_wp2_with fail
  go_ret
  exact ⟨rfl,HB.out⟩
 ·have q1:decide ((l.length:Int)>8)=false:=decide_eq_false (by omega)
  have q2:decide ((8:Int)<(l.length:Int))=false:=decide_eq_false (by omega)
  go_upto_region 5 with (fail)
  have hfv:=Law22.Fv.new w
  have hf2:=Fr.alloc (fun _=>False) (w.alloc (.cells zF KdO.TX)) (.cells Shape.zeroV Shape.TV)
  have hvb:=VB.new (w.alloc (.cells zF KdO.TX)) 0
  rw [show (w.alloc (.cells zF KdO.TX)).heap.size=w.heap.size+1 by simp] at hvb
  have HS0:Hid (SFo w ((w.alloc (.cells zF KdO.TX)).alloc (.cells Shape.zeroV Shape.TV)) w.heap.size (w.heap.size+1) 0 [] [w.heap.size] [w.heap.size+1] [] none 0):=
   ⟨hfv.b.trans (hf2.below hfv.b.size (fun _ _ h=>h)),hfv.f.fr hf2 (fun _ _ h=>h),hvb,fun x hx hm=>by have:=List.mem_singleton.1 hx;have:=List.mem_singleton.1 hm;omega,⟨fun x hx=>by have:=List.mem_singleton.1 hx;omega,fun x hx=>by have:=List.mem_singleton.1 hx;omega⟩,List.Perm.refl _,Ls.nil _,As.nil,by simp,by simp⟩
  clear hfv hf2 hvb q1 q2
  generalize ((w.alloc (.cells zF KdO.TX)).alloc (.cells Shape.zeroV Shape.TV))=w2 at *
  obtain ⟨Bf,hBf⟩:∃b,w.heap.size=b:=⟨_,rfl⟩
  obtain ⟨Bv,hBv⟩:∃b,w.heap.size+1=b:=⟨_,rfl⟩
  have HS0:Hid (SFo w w2 Bf Bv 0 [] [Bf] [Bv] [] none 0):=by
   have:=HS0.out
   rw [hBv] at this
   have h2:=this
   exact hBf▸(show SFo w w2 w.heap.size Bv 0 [] [w.heap.size] [Bv] [] none 0 from h2)
  rw [hBv,hBf]
  clear hBf hBv
  go_wp2_with fail
  go_loopg [5,6] l.length (fun gk v i wr=>∃ (k n:Nat) (P:List Sn) (F Fv:List Nat) (lk:List K3) (A:Option Addr) (c:Nat),i=.int .i64 k∧k≤l.length∧gk=l.length-k∧v=.slice A P.length c∧n≤200*k∧SFo w wr Bf Bv n P F Fv lk A c)
  case atStart=>exact ⟨0,0,[],[Bf],[Bv],[],none,0,rfl,Nat.zero_le _,rfl,rfl,Nat.le_refl _,HS0.out⟩
  case round=>
   clear HS0
   obtain ⟨k,n,P,F,Fv,lk,A,c,rfl,hk,hg,rfl,hnk,hs⟩:=hrel
   have HG:=Lib.hid hg;have HS:=Lib.hid hs
   clear hg hs
   by_cases hlt:k<l.length
   ·have q1:decide ((k:Int)<(l.length:Int))=true:=by simp;omega
    obtain ⟨b1,o1,rfl,hb1,cc⟩:=HL.out.s.at hlt (by omega)
    have e0:w.cell? ⟨b1,o1+k,none⟩=some (.slice l[k].A l[k].L.length l[k].c):=cc k _ (lv_at hlt)
    have hx0:=HL.out.r _ (List.getElem_mem hlt)
    clear cc
    generalize l[k]=x at *
    have HC:Hid (∀ {X:World},Below w.heap.size w X→X.cell? ⟨b1,o1+k,none⟩=some (.slice x.A x.L.length x.c)):=fun hb=>(World.cell?_of_block (w:=w) (a:=⟨b1,o1+k,none⟩) ((Fr.of_below' hb (fun _=>False)).block b1 hb1 (fun h=>h))).trans e0
    have HX:Hid (∀ {X:World},Below w.heap.size w X→Ls X x.A x.c x.L):=fun hb=>hx0.keep (Fr.of_below' hb _)
    clear e0 hx0 hb1
    have f0:=HC.out HS.out.b
    have q2:(0:Int)≤(k:Int):=by omega
    have q3:(k:Int)<(l.length:Int):=by omega
    go_wp2_with fail
    refine (SetF.Few x.A x.c 20 x.L wr (HX.out HS.out.b).s).mono ?_
    rintro e w3 ⟨rfl,hf3⟩
    have HS3:=Lib.hid (HS.out.keep hf3)
    clear hf3 HS f0
    cases hq:fewB x.L 20 with
    |false=>
     have HBr:=Lib.hid HS3.out.b
     go_wp2_with fail
     refine (awake w3).mono ?_
     rintro e w4 ⟨rfl,hb⟩
     have HBz:=Lib.hid (HBr.out.trans (hb.below HBr.out.size (fun _ _ h=>h)))
     clear hb
     go_wp2_with fail
     go_ret
     exact ⟨rfl,HBz.out⟩
    |true=>
     have hx20:=few_len hq
     have f0:=HC.out HS3.out.b
     clear hq
     go_wp2_with fail
     refine (RefSpans x.A x.c x.L w3 (HX.out HS3.out.b) (by omega)).mono ?_
     rintro e w4 ⟨Ax,cx,rfl,h1,h2,h3⟩
     have HAn:=Lib.hid (As.spn x.L)
     have hN:(spn x.L).length≤20:=Nat.le_trans (Nat.le_trans (ClsW.alive_len _) (setOf_len x.L)) hx20
     have hf4:=Fr.of_below' h3 (fun _=>False)
     have HS4:=Lib.hid (HS3.out.keep hf4)
     have HZ34:=Lib.hid hf4.size
     have HLn:=Lib.hid h1
     have HNa:Hid (∀q,Ax=some q→w3.heap.size≤q.block∧q.block<w4.heap.size):=fun q hq=>by subst hq;exact ⟨(ownsRow_blk h2 q.block rfl).1,(ownsRow_blk h2 q.block rfl).2.1⟩
     have HFl:Hid ((∀b∈F,b<w3.heap.size)∧∀b∈Fv,b<w3.heap.size):=⟨HS3.out.f.lt,HS3.out.v.lt⟩
     clear h1 h2 h3 hf4 HS3 f0
     generalize spn x.L=N at *
     have hm:=HS4.out.m
     go_wp2_with fail
     refine (BetweenN A Ax c cx P N w4 HS4.out.l HLn.out (by omega) (by omega)).mono ?_
     rw [HS4.out.s.ok.set,HAn.out.ok.set]
     rintro e w5 ⟨D1,d1,D2,d2,rfl,hd,hb,hn1,hn2⟩
     have hf5:=Fr.of_below' hb (fun _=>False)
     have hap:ApD ⟨D1,d1,wout N P,D2,d2,wout P N⟩ F:=apDn (lo:=w4.heap.size) (fun b hb=>HS4.out.f.lt b hb) (fun a ha=>hn1 a ha) (fun a ha=>hn2 a ha)
     have HS5:=Lib.hid (HS4.out.keep hf5)
     have HAp:=Lib.hid (ApplyS HS5.out.f HS5.out.s HAn.out (Law22.Ls.gd HS5.out.l) (Law22.Ls.gd HLn.out) (by omega) (by omega) hd hap)
     have HLn5:=Lib.hid (HLn.out.keep hf5)
     have HZ5:Hid (w3.heap.size≤w5.heap.size∧w4.heap.size≤w5.heap.size):=⟨Nat.le_trans HZ34.out hf5.size,hf5.size⟩
     clear hd hb hn1 hn2 hf5 hap HS4 HLn
     go_wp2_with fail
     refine HAp.out.mono ?_
     rintro e w6 ⟨A3,c3,A4,c4,m,F',rfl,g1,ht,s3,s4,n3,n4⟩
     have hfa:=Fr.alloc (fun _=>False) w6 (.cells #[.slice A3 (mvd P N).length c3,.slice A4 (mvd N P).length c4] TSh)
     have h5:=HS5.out
     have hz5:=HZ5.out
     have hfl:=HFl.out
     have hv6:=h5.v.fr ht.fr (fun b hb hm=>h5.d b hm hb)
     have hD1:∀b∈F',b∉Fv:=fun b hb hm=>by
      rcases (ht.sub b hb).1 with e|e
      ·exact h5.d b e hm
      ·have:=hfl.2 b hm;have:=hz5.1;omega
     have HD1:=Lib.hid hD1
     have HV7:=Lib.hid (hv6.fr hfa (fun _ _ h=>h))
     have HF7:=Lib.hid (g1.fr hfa (fun _ _ h=>h))
     have HT1:=Lib.hid ht
     have HL7:=Lib.hid ((HLn5.out.fr ht.fr (fun q hq hm=>by have:=hfl.1 _ hm;have:=(HNa.out q hq).1;omega)).keep hfa)
     have HB7:Hid (Below w.heap.size w (w6.alloc (.cells #[.slice A3 (mvd P N).length c3,.slice A4 (mvd N P).length c4] TSh))):=(h5.b.trans (ht.fr.below h5.b.size (fun i hi hm=>by have:=h5.lo.1 i hm;omega))).trans (hfa.below (Nat.le_trans h5.b.size ht.fr.size) (fun _ _ h=>h))
     obtain ⟨hh,hp⟩:=fol h5.s.ok.srs HAn.out.ok.srs h5.k
     have hPm:(mvd P N).length≤20:=by unfold mvd;rw [List.length_map];exact Nat.le_trans (List.length_filter_le _ _) hm
     have hNm:(mvd N P).length≤20:=by unfold mvd;rw [List.length_map];exact Nat.le_trans (List.length_filter_le _ _) hN
     have hlk:lk.length≤20:=by rw [h5.k.length_eq];simp;exact hm
     have HVa:=Lib.hid (VApply HV7.out (s3.fr hfa (fun _ _ h=>h)) (s4.fr hfa (fun _ _ h=>h)) (fun a ha hm=>by have:=hfl.2 _ hm;have:=n3 a ha;omega) (fun a ha hm=>by have:=hfl.2 _ hm;have:=n4 a ha;omega) (okm h5.s.ok.srs (by omega)) (okm HAn.out.ok.srs (by omega)) (by omega) (by omega) (by omega) (by omega))
     rw [hh] at HVa
     have HPm:=Lib.hid hp
     have HBk:=Lib.hid (Bk.new w6 #[.slice A3 (mvd P N).length c3,.slice A4 (mvd N P).length c4] TSh)
     have hz6:w6.heap.size≤(w6.alloc (.cells #[.slice A3 (mvd P N).length c3,.slice A4 (mvd N P).length c4] TSh)).heap.size:=hfa.size
     have HZ6:Hid (w5.heap.size≤(w6.alloc (.cells #[.slice A3 (mvd P N).length c3,.slice A4 (mvd N P).length c4] TSh)).heap.size):=Nat.le_trans ht.fr.size hz6
     have HLo:=Lib.hid h5.lo;have HSz:=Lib.hid h5.b.size
     have HDd:=Lib.hid h5.d
     clear g1 ht s3 s4 n3 n4 hfa h5 hz5 hfl hv6 hD1 hh hp HS5 HAp HLn5 hz6
     go_upto_region 13 with (fail)
     generalize (w6.alloc (.cells #[.slice A3 (mvd P N).length c3,.slice A4 (mvd N P).length c4] TSh))=w7 at *
     have z0:=HBk.out.cell 0;have z1:=HBk.out.cell 1
     simp only [List.getElem?_toArray,List.getElem?_cons_zero,List.getElem?_cons_succ] at z0 z1
     obtain ⟨P2,hP2⟩:∃P2,N.map (plq N)=P2:=⟨_,rfl⟩
     have hp2:P2.length≤20:=by rw [←hP2,List.length_map];exact hN
     have hok2:∀q∈P2.map toPl,okK q.k:=fun q hq=>by
      obtain ⟨p,hp,rfl⟩:=List.mem_map.1 hq
      rw [←hP2] at hp
      obtain ⟨y,hy,rfl⟩:=List.mem_map.1 hp
      exact okq HAn.out.ok.srs (by omega) hy
     rw [hP2] at HPm
     have HP2:=Lib.hid hP2;have HOk2:=Lib.hid hok2
     clear hP2 hok2
     go_wp2_with fail
     refine HVa.out.mono ?_
     rintro e w8 ⟨rfl,Fv',hv8,ht8⟩
     have hlk2:(appL lk (ks (mvd P N)) (ks (mvd N P))).length≤20:=by rw [HPm.out.length_eq];simp;exact hp2
     have HF8:=Lib.hid (HF7.out.fr ht8.fr (fun b hb hm=>HD1.out b hb hm))
     have HL8:=Lib.hid (HL7.out.fr ht8.fr (fun q hq hm=>by have:=HFl.out.2 _ hm;have:=(HNa.out q hq).1;omega))
     have HB8:=Lib.hid (HB7.out.trans (ht8.fr.below HB7.out.size (fun i hi hm=>by have:=HLo.out.2 i hm;omega)))
     have HV8:=Lib.hid hv8;have HT8:=Lib.hid ht8
     have HD8:Hid (∀b∈F',b∉Fv'):=fun b hb hm=>by
      rcases (ht8.sub b hm).1 with e|e
      ·exact HD1.out b hb e
      ·have:=HF7.out.lt b hb
       have h3:=(HT1.out.sub b hb).2
       have:=HF8.out.lt b hb
       omega
     clear hv8 ht8 HVa HV7 HL7 HB7 z0 z1 HBk
     generalize appL lk (ks (mvd P N)) (ks (mvd N P))=lk2 at *
     go_wp2_with fail
     refine (Shape.Shape_ Bv _ lk2 Fv' w8 HV8.out (by omega)).mono ?_
     rintro e w9 ⟨X,B1,e1,B2,e2,rfl,hX,hD,hFn,-,-,hf9⟩
     have HF9:=Lib.hid (HF8.out.fr hf9 (fun _ _ h=>h));have HL9:=Lib.hid (HL8.out.keep hf9);have HV9:=Lib.hid (HV8.out.fr hf9 (fun _ _ h=>h))
     have HB9:=Lib.hid (HB8.out.trans (hf9.below HB8.out.size (fun _ _ h=>h)))
     have HX:=Lib.hid (shp_perm hX HPm.out)
     have HDn:=Lib.hid hD;have HFn:=Lib.hid hFn
     have HZ9:=Lib.hid hf9.size
     clear hX hD hFn hf9 HF8 HL8 HV8 HB8
     go_wp2_with fail
     refine (PlacesF HF9.out (by omega) P2 HP2.out _ rfl).mono ?_
     rintro e w10 ⟨A5,c5,rfl,hs5,hf10⟩
     have HDn:=Lib.hid (HDn.out.fr hf10 (fun _ _ h=>h));have HFn:=Lib.hid (HFn.out.fr hf10 (fun _ _ h=>h))
     have HOf:=Lib.hid (VOf rfl hs5 HOk2.out (by omega))
     have HF10:=Lib.hid hf10
     clear hs5 hf10
     go_wp2_with fail
     refine HOf.out.mono ?_
     rintro e w11 ⟨Y,B3,e3,B4,e4,rfl,hY,hD2,hF2,-,-,hf11⟩
     obtain rfl:=IsShp.ext HX.out hY
     have HF11:=Lib.hid (HF10.out.trans hf11 (T:=fun _=>False) (fun _ _ h=>h) (fun _ _ h=>h))
     have HSm:=Lib.hid (Ref23.Same X B1 B2 B3 B4 e1 e2 e3 e4 w11 (HDn.out.fr hf11 (fun _ _ h=>h)) (HFn.out.fr hf11 (fun _ _ h=>h)) hD2 hF2)
     clear hY hD2 hF2 hf11 HX HDn HFn HOf HF10
     go_wp2_with fail
     refine HSm.out.mono ?_
     rintro e w12 ⟨rfl,hf12⟩
     have hf:=HF11.out.trans hf12 (T:=fun _=>False) (fun _ _ h=>h) (fun _ _ h=>h)
     have HS12:Hid (SFo w w9 Bf Bv (n+3*((mvd P N).length+(mvd N P).length)) N F' Fv' lk2 Ax cx):=by
      have hz:=HZ6.out;have hz9:=HZ9.out;have hz5:=HZ5.out
      refine ⟨HB9.out,HF9.out,HV9.out,HD8.out,⟨fun b hb=>?_,fun b hb=>?_⟩,by rw [HP2.out];exact HPm.out,HL9.out,HAn.out,hN,fun q hq=>?_⟩
      ·rcases (HT1.out.sub b hb).1 with e|e
       ·exact HLo.out.1 b e
       ·have:=HSz.out;omega
      ·rcases (HT8.out.sub b hb).1 with e|e
       ·exact HLo.out.2 b e
       ·have:=HSz.out;omega
      ·obtain ⟨r1,r2⟩:=HNa.out q hq
       have hFl:=HFl.out
       have t8:=HT8.out.fr.size
       exact ⟨not_new HT1.out (fun hm=>by have:=hFl.1 _ hm;omega) (by omega),not_new HT8.out (fun hm=>by have:=hFl.2 _ hm;omega) (by omega),by omega⟩
     have HS13:=Lib.hid (HS12.out.keep hf)
     have qk:IntKind.i64.wrap ((k:Int)+1)=(k:Int)+1:=by rw [IntKind.wrap_i64];omega
     clear hf hf12 HS12 HSm HF11
     go_wp2_with fail
     go_roundg (l.length-(k+1))
     case rel=>exact ⟨k+1,_,N,F',Fv',lk2,Ax,cx,by go_num,by omega,rfl,rfl,by omega,HS13.out⟩
     case measure=>have:=HG.out;omega
   ·have hke:k=l.length:=by omega
    subst hke
    have q1:decide ((l.length:Int)<(l.length:Int))=false:=by simp
    have HBr:=Lib.hid HS.out.b
    clear HS
    go_wp2_with fail
    refine (awake wr).mono ?_
    rintro e w9 ⟨rfl,hb⟩
    have HBz:=Lib.hid (HBr.out.trans (hb.below HBr.out.size (fun _ _ h=>h)))
    clear hb
    go_wp2_with fail
    go_ret
    exact ⟨rfl,HBz.out⟩
end Law23
end Go.Proofs.YtgfjpnpbkkadpaaGreat
