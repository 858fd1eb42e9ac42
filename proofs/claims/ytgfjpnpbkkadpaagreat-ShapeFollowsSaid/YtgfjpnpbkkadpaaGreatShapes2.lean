/- Shapes: Apply. -/
import Derived.Test.YtgfjpnpbkkadpaaGreatShapes
namespace Go.Proofs.YtgfjpnpbkkadpaaGreat
open Tryz
set_option maxRecDepth 100000
set_option maxHeartbeats 1000000
open Go.RowKit
namespace Shape
open BagP Bag ShapeP Fm
abbrev TSh:TypeId:=80
abbrev zeroV:Array Value:= #[.map none,.map none,.pointer none,.int .i64 0,.int .i64 0,.pointer none,.int .i64 0,.int .i64 0]
def VB (w:World) (B n:Nat) (l:List K3) (F:List Nat):Prop:=(Bk w B zeroV TV∧l= []∧F= [B])∨∃rk rc,VM w B rk rc n l l l l F
def Ar (w:World) (A:Option Addr) (c:Nat) (xs:List Pl) (F:List Nat):Prop:=Sl w 6 A xs.length c (xs.flatMap plc)∧(xs≠ []→∀a,A=some a→a.block∉F)
section
variable {w w':World} {B n m:Nat} {l:List K3} {F F':List Nat} {A:Option Addr} {c:Nat} {xs:List Pl}
theorem VB.new (w:World) (n:Nat):VB (w.alloc (.cells zeroV TV)) w.heap.size n [] [w.heap.size]:=.inl ⟨Bk.new _ _ _,rfl,rfl⟩
theorem VB.fr {S:Nat→Prop} (h:VB w B n l F) (hf:Fr S w w') (hs:∀b∈F,¬S b):VB w' B n l F:=by
 rcases h with ⟨h1,h2,rfl⟩| ⟨rk,rc,h⟩
 ·exact .inl ⟨h1.fr hf hs,h2,rfl⟩
 ·exact .inr ⟨rk,rc,h.fr hf hs⟩
theorem VB.lt (h:VB w B n l F):∀b∈F,b<w.heap.size:=by
 rcases h with ⟨h1,h2,rfl⟩| ⟨rk,rc,h⟩
 ·intro b hb;simp at hb;subst hb;exact lt_of_heap h1
 ·exact h.lt
theorem VB.mem (h:VB w B n l F):B∈F:=by
 rcases h with ⟨h1,h2,rfl⟩| ⟨rk,rc,h⟩
 ·simp
 ·exact h.mem.1
theorem VM.up {rk rc:Nat} (h:VM w B rk rc n l l l l F) (hn:n≤m) (hm:m<1000000):VM w B rk rc m l l l l F:=by
 obtain ⟨c,L1,L2,G1,G2,h,rfl⟩:=h
 exact ⟨c,L1,L2,G1,G2,{ h with km:=Shape.FM.mono h.km hn hm,cm:=Shape.FM.mono h.cm hn hm },rfl⟩
theorem VB.up (h:VB w B n l F) (hn:n≤m) (hm:m<1000000):VB w B m l F:=by
 rcases h with h| ⟨rk,rc,h⟩
 ·exact .inl h
 ·exact .inr ⟨rk,rc,h.up hn hm⟩
theorem VB.rk (h:VB w B n l F):∃mk,RK w B mk l∧((mk=none∧Bk w B zeroV TV∧l= []∧F= [B])∨∃rk rc,mk=some rk∧VM w B rk rc n l l l l F):=by
 have hl:=h.lt B h.mem
 rcases h with ⟨h1,h2,h3⟩| ⟨rk,rc,h⟩
 ·exact ⟨none,⟨h1.cell 0,hl,.inl ⟨rfl,h2⟩⟩,.inl ⟨rfl,h1,h2,h3⟩⟩
 ·have hc:=h.cells.1
  refine ⟨some rk,⟨hc,hl,.inr ⟨rk,n,rfl,?_⟩⟩,.inr ⟨rk,rc,rfl,h⟩⟩
  obtain ⟨c,L1,L2,G1,G2,h,rfl⟩:=h
  exact h.km
theorem Ar.step (h:Ar w A c xs F) (ht:Tn F F' w w'):Ar w' A c xs F':=by
 by_cases hx:xs= []
 ·subst hx
  obtain ⟨⟨h1,h2,h3,h4,h5⟩,-⟩:=h
  exact ⟨⟨h1,h2,h3,h4,fun h=>absurd rfl h⟩,fun h=>absurd rfl h⟩
 ·have hne:xs.flatMap plc≠ []:=fun e=>by
   have:=congrArg List.length e
   rw [flat_length plc_len] at this
   exact hx (List.eq_nil_of_length_eq_zero (by simp at this;omega))
  refine ⟨h.1.fr ht.fr (fun a ha=>h.2 hx a ha),fun _ a ha he=>?_⟩
  have hlt:=h.1.lt hne a ha
  rcases (ht.sub _ he).1 with e|e
  ·exact h.2 hx a ha e
  ·omega
theorem Ar.fr (h:Ar w A c xs F) (hf:Fr (fun _=>False) w w'):Ar w' A c xs F:=⟨h.1.fr hf (fun _ _ h=>h),h.2⟩
theorem VM.made {wz:World} (h:Bk w B zeroV TV) (hw:((w.alloc (.map #[] 0)).alloc (.map #[] 0) |>.setCell ⟨B,0,none⟩ (.map (some w.heap.size))).setCell ⟨B,1,none⟩ (.map (some (w.heap.size+1)))=wz):
  VM wz B w.heap.size (w.heap.size+1) 0 [] [] [] [] [B,w.heap.size,w.heap.size+1]∧Tn [B] [B,w.heap.size,w.heap.size+1] w wz:=by
 have hlt:=lt_of_heap h
 have fa:Fr (fun _=>False) w ((w.alloc (.map #[] 0)).alloc (.map #[] 0)):=(Fr.alloc _ _ _).trans (Fr.alloc (fun _=>False) _ _) (fun _ _ h=>h) (fun _ _ h=>h)
 have hs2:((w.alloc (.map #[] 0)).alloc (.map #[] 0)).heap.size=w.heap.size+2:=by simp
 have m1:FM TK kv okK ((w.alloc (.map #[] 0)).alloc (.map #[] 0)) w.heap.size 0 (fun _=>0):=(FM.new (tk:=TK) (kv:=kv) (ok:=okK) w).fr (Fr.alloc (fun _=>False) _ _) (fun _ _ h=>h)
 have m2:FM TI iv wfI ((w.alloc (.map #[] 0)).alloc (.map #[] 0)) (w.heap.size+1) 0 (fun _=>0):=by
  have:=FM.new (tk:=TI) (kv:=iv) (ok:=wfI) (w.alloc (.map #[] 0))
  rwa [World.size_alloc] at this
 have h2:Bk ((w.alloc (.map #[] 0)).alloc (.map #[] 0)) B zeroV TV:=h.fr fa (fun _ _ h=>h)
 generalize ((w.alloc (.map #[] 0)).alloc (.map #[] 0))=W at *
 have f1:=Fr.setCell W ⟨B,0,none⟩ (.map (some w.heap.size)) (S:=(· =B)) rfl
 have f2:=Fr.setCell (W.setCell ⟨B,0,none⟩ (.map (some w.heap.size))) ⟨B,1,none⟩ (.map (some (w.heap.size+1))) (S:=(· =B)) rfl
 have h4:=(h2.set 0 (.map (some w.heap.size))).set 1 (.map (some (w.heap.size+1)))
 rw [hw] at f2 h4
 have ff:=f1.trans f2 (T:=(· =B)) (fun _ _ h=>h) (fun _ _ h=>h)
 have hz:wz.heap.size=w.heap.size+2:=by rw [←hw];simp [World.setCell];omega
 have hvm:VI wz B w.heap.size (w.heap.size+1) 0 [] [] [] [] _ [] [] [] []:=⟨h4,rfl,rfl,rfl,⟨none,rfl,rfl,rfl,AvlII.MapIn.nil _,fun p h=>by simp at h,by simp [sumL]⟩,⟨none,rfl,rfl,rfl,AvlII.MapIn.nil _,fun p h=>by simp at h,by simp [sumL]⟩,IsBag.nil,IsBag.nil,
  (m1.fr ff (fun b hb e=>by simp at hb;omega)).to (fun _ _=>rfl),(m2.fr ff (fun b hb e=>by simp at hb;omega)).to (fun _ _=>rfl),⟨by omega,by omega,by omega,by simp,by simp,by omega,by omega,by omega,by simp,by simp,by simp,by simp,by simp,by simp,by simp⟩⟩
 refine ⟨⟨_,[],[],[],[],hvm,rfl⟩,?_,fun x hx=>?_⟩
 ·exact fa.trans ff (fun _ _ h=>h.elim) (fun _ _ h=>by simp [h])
 ·simp at hx
  refine ⟨?_,by omega⟩
  rcases hx with rfl|rfl|rfl
  ·exact .inl (by simp)
  ·exact .inr (Nat.le_refl _)
  ·exact .inr (by omega)
end
theorem eql_map (mk:Option Nat) (w:World):(binOp .eql TMK (.map mk) (.map none)).run prog w=.ok (.bool mk.isNone) w:=by
 cases mk with
 |none=>kernel_rfl
 |some r=>kernel_rfl
structure AS (w0:World) (F0:List Nat) (w:World) (B rk rc n:Nat) (l:List K3) (F:List Nat) (Bs:Nat) (A1 A2:Option Addr) (c1 c2:Nat) (xs ys:List Pl):Prop where
 h:VM w B rk rc n l l l l F
 t:Tn F0 F w0 w
 p:Bk w Bs #[.slice A1 xs.length c1,.slice A2 ys.length c2] TSh
 nb:Bs∉F
 a1:Ar w A1 c1 xs F
 a2:Ar w A2 c2 ys F
section
variable {w0 w w':World} {F0 F F':List Nat} {B rk rc n m:Nat} {l l':List K3} {Bs:Nat} {A1 A2:Option Addr} {c1 c2:Nat} {xs ys:List Pl}
theorem AS.to (h:AS w0 F0 w B rk rc n l F Bs A1 A2 c1 c2 xs ys) (k:VM w' B rk rc m l' l' l' l' F') (t:Tn F F' w w'):AS w0 F0 w' B rk rc m l' F' Bs A1 A2 c1 c2 xs ys:=
 ⟨k,h.t.trans t,h.p.fr t.fr (fun b hb=>by simp at hb;subst hb;exact h.nb),fun hx=>by
  rcases (t.sub Bs hx).1 with e|e
  ·exact h.nb e
  ·have:=lt_of_heap h.p;omega,h.a1.step t,h.a2.step t⟩
theorem AS.fr (h:AS w0 F0 w B rk rc n l F Bs A1 A2 c1 c2 xs ys) (hf:Fr (fun _=>False) w w'):AS w0 F0 w' B rk rc n l F Bs A1 A2 c1 c2 xs ys:=h.to (h.h.fr hf (fun _ _ h=>h)) (Tn.of_fr hf h.h.lt)
theorem AS.mk' (hvm:VM w' B rk rc n l l l l F') (t0:Tn F F w0 w) (t:Tn F F' w w') (b:Bk w Bs #[.slice A1 xs.length c1,.slice A2 ys.length c2] TSh) (nb:Bs∉F) (a1:Ar w A1 c1 xs F) (a2:Ar w A2 c2 ys F):AS w0 F w' B rk rc n l F' Bs A1 A2 c1 c2 xs ys:=
 ⟨hvm,t0.trans t,b.fr t.fr (fun b hb=>by simp at hb;subst hb;exact nb),fun hx=>by
  rcases (t.sub Bs hx).1 with e|e
  ·exact nb e
  ·have:=lt_of_heap b;omega,a1.step t,a2.step t⟩
theorem pl_cells {w:World} {k:Nat} {xs:List Pl} {b o:Nat} (hk:k<xs.length) (hc:∀j u,(xs.flatMap plc)[j]? =some u→w.cell? ⟨b,o+j,none⟩=some u):
  w.cell? ⟨b,o+k*6,none⟩=some (.int .i64 xs[k].t)∧w.cell? ⟨b,o+k*6+1,none⟩=some (.int .i64 xs[k].i)∧w.cell? ⟨b,o+k*6+1+1,none⟩=some (.int .i64 xs[k].c)∧w.cell? ⟨b,o+k*6+1+1+1,none⟩=some (.int .i64 xs[k].d)∧w.cell? ⟨b,o+k*6+1+1+1+1,none⟩=some (.int .i64 xs[k].p)∧w.cell? ⟨b,o+k*6+1+1+1+1+1,none⟩=some (.int .i64 xs[k].f):=by
 have key:∀j u,j<6→(plc xs[k])[j]? =some u→w.cell? ⟨b,o+(k*6+j),none⟩=some u:=fun j u hj hu=>hc _ u (by rw [flat_at plc_len hk hj];exact hu)
 exact ⟨key 0 _ (by omega) rfl,key 1 _ (by omega) rfl,key 2 _ (by omega) rfl,key 3 _ (by omega) rfl,key 4 _ (by omega) rfl,key 5 _ (by omega) rfl⟩
end
theorem Apply (B n:Nat) (l:List K3) (F:List Nat) (A1 A2:Option Addr) (c1 c2:Nat) (xs ys:List Pl) (w:World) (h:VB w B n l F) (a1:Ar w A1 c1 xs F) (a2:Ar w A2 c2 ys F) (hwf1:∀x∈xs,okK x.k) (hwf2:∀x∈ys,okK x.k)
  (hx:xs.length≤1000) (hy:ys.length≤1000) (hl:l.length+ys.length<100000) (hn:n+3*(xs.length+ys.length)<1000000):
  Calls prog 50 #[.pointer (some ⟨B,0,none⟩),.agg #[.slice A1 xs.length c1,.slice A2 ys.length c2]] w fun e w'=>e=.returned (.bool (hasB l (xs.map Pl.k)))∧∃F',VB w' B (n+3*(xs.length+ys.length)) (appL l (xs.map Pl.k) (ys.map Pl.k)) F'∧Tn F F' w w':=by
 obtain ⟨mk,hrk,hcase⟩:=h.rk
 have hFl:=h.lt
 have hBF:=h.mem
 have fa:=Fr.alloc (fun _=>False) w (.cells #[.slice A1 xs.length c1,.slice A2 ys.length c2] TSh)
 have HH:=Lib.hid (has B mk l A1 c1 xs (w.alloc (.cells #[.slice A1 xs.length c1,.slice A2 ys.length c2] TSh)) (hrk.fr fa) (a1.fr fa).1 hwf1 hx)
 have HBs:=Lib.hid (Bk.new w #[.slice A1 xs.length c1,.slice A2 ys.length c2] TSh)
 have HA1:=Lib.hid (a1.fr fa);have HA2:=Lib.hid (a2.fr fa);have HW1:=Lib.hid hwf1;have HW2:=Lib.hid hwf2
 have HF0:=Lib.hid fa;have HV:=Lib.hid (h.fr fa (fun _ _ h=>h));have HRK:=Lib.hid (hrk.fr fa);have HFl:=Lib.hid hFl
 have HC:=Lib.hid hcase
 have hlx1:0≤(xs.length:Int):=by omega
 have hne:¬w.heap.size=B:=fun e=>by have:=hFl B hBF;omega
 have hne2:¬B=w.heap.size:=fun e=>hne e.symm
 clear hrk hcase h a1 a2 hwf1 hwf2 fa
 go_enter func50,ntmps50
 go_wp2_with fail
 refine HH.out.mono ?_
 rintro e w1 ⟨rfl,hf1⟩
 have fa1:=HF0.out.trans hf1 (T:=fun _=>False) (fun _ _ h=>h) (fun _ _ h=>h)
 have HF1:=Lib.hid fa1
 have b1:=HBs.out.fr hf1 (fun _ _ h=>h)
 have s0:w1.cell? ⟨w.heap.size,0,none⟩=some (.slice A1 xs.length c1):=b1.cell 0
 have s1:w1.cell? ⟨w.heap.size,1,none⟩=some (.slice A2 ys.length c2):=b1.cell 1
 have HB1:=Lib.hid b1;have HA1':=Lib.hid (HA1.out.fr hf1);have HA2':=Lib.hid (HA2.out.fr hf1);have HV1:=Lib.hid (HV.out.fr hf1 (fun _ _ h=>h));have HR1:=Lib.hid (HRK.out.fr hf1)
 clear fa1 hf1 b1 HH HBs HA1 HA2 HF0 HV HRK
 cases hh:hasB l (xs.map Pl.k) with
 |false=>
  have hx0:xs.length≠0:=fun e=>by
   have:xs= []:=List.eq_nil_of_length_eq_zero e
   subst this;cases hh
  have hz:((xs.length:Int)+ys.length==0)=false:=by simp;omega
  have hwr:IntKind.i64.wrap ((xs.length:Int)+ys.length)=xs.length+ys.length:=IntWalk.i64_in _ (by omega)
  have HApp:Hid (appL l (xs.map Pl.k) (ys.map Pl.k)=l):=by show _=_;unfold appL;rw [hh];rfl
  go_wp2_with fail
  go_ret
  exact ⟨by rw [hh];rfl,F,by rw [HApp.out];exact HV1.out.up (by omega) hn,Tn.of_fr HF1.out HFl.out⟩
 |true=>
  have HApp:Hid (appL l (xs.map Pl.k) (ys.map Pl.k)=dif l (xs.map Pl.k)++ys.map Pl.k):=by show _=_;unfold appL;rw [hh];rfl
  have HHas:=Lib.hid hh
  clear hh
  have q0:=HR1.out.1
  have hbm:=eql_map mk
  have hnb:w.heap.size∉F:=fun e=>by have:=HFl.out _ e;omega
  have HNb:=Lib.hid hnb
  clear hnb
  go_upto_if 30 with (fail)
  clear hbm q0
  go_cut [0,3] (fun s0 s3 wc=>s0=.pointer (some ⟨B,0,none⟩)∧s3=.pointer (some ⟨w.heap.size,0,none⟩)∧∃rk rc F1,AS w F wc B rk rc n l F1 w.heap.size A1 A2 c1 c2 xs ys)
  case first=>
   rcases HC.out with ⟨rfl,hz,rfl,rfl⟩| ⟨rk,rc,rfl,hvm⟩
   ·have hz1:Bk w1 B zeroV TV:=hz.fr HF1.out (fun _ _ h=>h)
    have hz2:Bk ((w1.alloc (.map #[] 0)).alloc (.map #[] 0)) B zeroV TV:=(hz1.fr (Fr.alloc (fun _=>False) _ _) (fun _ _ h=>h)).fr (Fr.alloc (fun _=>False) _ _) (fun _ _ h=>h)
    have k0:((w1.alloc (.map #[] 0)).alloc (.map #[] 0)).cell? ⟨B,0,none⟩=some (.map none):=hz2.cell 0
    have g0:=hz2.free 0
    have hz3:=hz2.set 0 (.map (some w1.heap.size))
    have k1:(((w1.alloc (.map #[] 0)).alloc (.map #[] 0)).setCell ⟨B,0,none⟩ (.map (some w1.heap.size))).cell? ⟨B,1,none⟩=some (.map none):=hz3.cell 1
    have g1:=hz3.free 1
    have hmm:=@run_makeMap prog
    have hmade:=VM.made hz1 rfl
    have HMade:=Lib.hid hmade
    clear hmade hz hz1 hz2 hz3 HC HR1 HV1
    go_wp2_with fail
    go_meet
    exact ⟨rfl,rfl,_,_,_,AS.mk' (HMade.out.1.up (Nat.zero_le _) (by omega)) (Tn.of_fr HF1.out HFl.out) HMade.out.2 HB1.out HNb.out HA1'.out HA2'.out⟩
   ·have HM:=Lib.hid (hvm.fr HF1.out (fun _ _ h=>h))
    clear hvm HC HR1 HV1
    go_wp2_with fail
    go_meet
    exact ⟨rfl,rfl,rk,rc,F,AS.mk' HM.out (Tn.of_fr HF1.out HFl.out) (Tn.refl HM.out.lt) HB1.out HNb.out HA1'.out HA2'.out⟩
  case rest=>
   obtain ⟨rfl,rfl,rk,rc,F1,hcs⟩:=hcut
   have H:=Lib.hid hcs
   have s0:wc.cell? ⟨w.heap.size,0,none⟩=some (.slice A1 xs.length c1):=hcs.p.cell 0
   clear hcs HC HR1 HV1 HB1 HA1' HA2' HF1 HNb hne hne2
   have hnx:xs.length≤9223372036854775807:=by omega
   have hny:ys.length≤9223372036854775807:=by omega
   go_wp2_with fail
   clear s0
   go_loopg [6,42] xs.length (fun gk _ i wr=>∃ (k:Nat) (F2:List Nat),i=.int .i64 k∧k≤xs.length∧gk=xs.length-k∧AS w F wr B rk rc (n+3*k) (dif l ((xs.map Pl.k).take k)) F2 w.heap.size A1 A2 c1 c2 xs ys)
   case atStart=>exact ⟨0,F1,rfl,Nat.zero_le _,rfl,H.out⟩
   case round=>
    obtain ⟨k,F2,rfl,hk,hg,hst⟩:=hrel
    have HG:=Lib.hid hg;have H2:=Lib.hid hst
    clear hg hst H
    by_cases hlt:k<xs.length
    ·have HPl:=H2.out.a1.1.at hlt (by omega)
     obtain ⟨b1,o1,rfl,hb1,hc1⟩:=HPl
     obtain ⟨d0,d1,d2,d3,d4,d5⟩:=pl_cells hlt hc1
     have hkx:=HW1.out _ (List.getElem_mem hlt)
     have hT:(xs.map Pl.k).take (k+1)=(xs.map Pl.k).take k++ [xs[k].k]:=by rw [List.take_succ_eq_append_getElem (by simpa using hlt)];simp
     have hD:xs.map Pl.k=(xs.map Pl.k).take k++ [xs[k].k]++(xs.map Pl.k).drop (k+1):=by rw [←hT,List.take_append_drop]
     have hm:xs[k].k∈dif l ((xs.map Pl.k).take k):=by
      have h1:=HHas.out
      rw [hD] at h1
      have h2:=hasB_left h1
      rw [hasB_snoc,Bool.and_eq_true,decide_eq_true_eq] at h2
      exact mem_dif.2 h2.2
     have HT:Hid (dif l ((xs.map Pl.k).take (k+1))=(dif l ((xs.map Pl.k).take k)).erase xs[k].k):=by show _=_;rw [hT,dif_snoc]
     have hln:=dif_len ((xs.map Pl.k).take k) l
     have H3:=Lib.hid (H2.out.fr (Fr.alloc (fun _=>False) wr (.cells (pla xs[k]) TP)))
     have HL:=Lib.hid (leave B rk rc (n+3*k) (dif l ((xs.map Pl.k).take k)) F2 xs[k] (wr.alloc (.cells (pla xs[k]) TP)) H3.out.h hkx hm (by omega) (by omega))
     clear hT hD hm hc1 hkx H2 hln
     generalize dif l ((xs.map Pl.k).take k)=l1 at *
     generalize xs[k]=x at *
     obtain ⟨t,i,c,d,p,f⟩:=x
     dsimp only at d0 d1 d2 d3 d4 d5
     go_wp2_with fail
     refine HL.out.mono ?_
     rintro e w2 ⟨rfl,F3,hv,ht⟩
     have H4:=Lib.hid (H3.out.to hv ht)
     clear hv ht H3 HL d0 d1 d2 d3 d4 d5
     go_wp2_with fail
     go_roundg (xs.length-(k+1))
     case rel=>exact ⟨k+1,F3,by go_num,by omega,rfl,by rw [HT.out];exact H4.out⟩
     case measure=>have:=HG.out;omega
    ·obtain rfl:k=xs.length:=by omega
     have hE:(xs.map Pl.k).take xs.length=xs.map Pl.k:=List.take_of_length_le (by simp)
     rw [hE] at H2
     have s1:wr.cell? ⟨w.heap.size,1,none⟩=some (.slice A2 ys.length c2):=H2.out.p.cell 1
     have hl1:=dif_len (xs.map Pl.k) l
     clear hE
     generalize dif l (xs.map Pl.k)=l1 at *
     obtain ⟨wo,rfl⟩:∃wo,wo=wr:=⟨_,rfl⟩
     go_wp2_with fail
     clear s1
     go_loopg [8,53] ys.length (fun gk _ i wr=>∃ (k:Nat) (F3:List Nat),i=.int .i64 k∧k≤ys.length∧gk=ys.length-k∧AS w F wr B rk rc (n+3*(xs.length+k)) (l1++(ys.map Pl.k).take k) F3 w.heap.size A1 A2 c1 c2 xs ys)
     case atStart=>exact ⟨0,F2,rfl,Nat.zero_le _,rfl,by simpa using H2.out⟩
     case round=>
      obtain ⟨k,F3,rfl,hk,hg,hst⟩:=hrel
      have HG:=Lib.hid hg;have H5:=Lib.hid hst
      clear hg hst H2
      by_cases hlt:k<ys.length
      ·have HPl:=H5.out.a2.1.at hlt (by omega)
       obtain ⟨b1,o1,rfl,hb1,hc1⟩:=HPl
       obtain ⟨d0,d1,d2,d3,d4,d5⟩:=pl_cells hlt hc1
       have hkx:=HW2.out _ (List.getElem_mem hlt)
       have HT:Hid (l1++(ys.map Pl.k).take (k+1)=l1++(ys.map Pl.k).take k++ [ys[k].k]):=by show _=_;rw [List.take_succ_eq_append_getElem (by simpa using hlt)];simp
       have hln:(l1++(ys.map Pl.k).take k).length<100000:=by simp;omega
       have H6:=Lib.hid (H5.out.fr (Fr.alloc (fun _=>False) wr (.cells (pla ys[k]) TP)))
       have HL:=Lib.hid (come B rk rc (n+3*(xs.length+k)) (l1++(ys.map Pl.k).take k) F3 ys[k] (wr.alloc (.cells (pla ys[k]) TP)) H6.out.h hkx hln (by omega))
       clear hc1 hkx H5 hln
       generalize l1++(ys.map Pl.k).take k=l2 at *
       generalize ys[k]=x at *
       obtain ⟨t,i,c,d,p,f⟩:=x
       dsimp only at d0 d1 d2 d3 d4 d5
       go_wp2_with fail
       refine HL.out.mono ?_
       rintro e w2 ⟨rfl,F4,hv,ht⟩
       have H7:=Lib.hid (H6.out.to hv ht)
       clear hv ht H6 HL d0 d1 d2 d3 d4 d5
       go_wp2_with fail
       go_roundg (ys.length-(k+1))
       case rel=>exact ⟨k+1,F4,by go_num,by omega,rfl,by rw [HT.out];exact H7.out⟩
       case measure=>have:=HG.out;omega
      ·obtain rfl:k=ys.length:=by omega
       have hE:(ys.map Pl.k).take ys.length=ys.map Pl.k:=List.take_of_length_le (by simp)
       rw [hE] at H5
       clear hE
       go_wp2_with fail
       go_ret
       exact ⟨by rw [HHas.out];rfl,F3,.inr ⟨rk,rc,by rw [HApp.out];exact H5.out.h⟩,H5.out.t⟩
end Shape
set_option maxRecDepth 100000
set_option maxHeartbeats 1000000
namespace Shape
open BagP Bag ShapeP Fm
attribute [local go_sem] Eng.ev Eng.getO_cons Eng.getO_nil
abbrev TSp:TypeId:=108
abbrev sha (x:Shp) (A1 A2:Option Addr) (c1 c2:Nat):Array Value:= #[.int .i64 x.n,.int .i64 x.r,.int .i64 x.o,.int .i64 x.c,.slice A1 x.D.length c1,.slice A2 x.F.length c2]
abbrev shv (x:Shp) (A1 A2:Option Addr) (c1 c2:Nat):Value:=.agg (sha x A1 A2 c1 c2)
abbrev Cs (w:World) (A:Option Addr) (c:Nat) (L:List (Int × Int)):Prop:=Sl w 2 A L.length c (L.flatMap pc)
structure RV (w:World) (B:Nat) (c:Array Value) (mc:Option Nat) (l:List K3) (L1 L2:List (Int × Int)) (G1 G2:List Nat):Prop where
 d:BagIn w B 2 c TV L1 G1
 f:BagIn w B 5 c TV L2 G2
 dl:Dep l L1
 fl:Fan l L2
 c1:c[1]? =some (.map mc)
 m:(mc=none∧l= [])∨∃r n,mc=some r∧FM TI iv wfI w r n (fun x=>cn (cls x) l)
theorem VB.rv {w:World} {B n:Nat} {l:List K3} {F:List Nat} (h:VB w B n l F):∃c mc L1 L2 G1 G2,RV w B c mc l L1 L2 G1 G2:=by
 rcases h with ⟨h1,rfl,h3⟩| ⟨rk,rc,c,L1,L2,G1,G2,h,-⟩
 ·exact ⟨zeroV,none,[],[],[],[],⟨h1,⟨none,rfl,rfl,rfl,AvlII.MapIn.nil _,fun p h=>by simp at h,by simp [sumL]⟩,by simp⟩,⟨h1,⟨none,rfl,rfl,rfl,AvlII.MapIn.nil _,fun p h=>by simp at h,by simp [sumL]⟩,by simp⟩,IsBag.nil,IsBag.nil,rfl,.inl ⟨rfl,rfl⟩⟩
 ·exact ⟨c,some rc,L1,L2,G1,G2,⟨h.blk,h.d,h.ap.b1⟩,⟨h.blk,h.f,h.ap.b2⟩,h.dl,h.fl,h.c1,.inr ⟨rc,n,rfl,h.cm⟩⟩
section
variable {w0 w w':World} {B:Nat} {c:Array Value} {mc:Option Nat} {l:List K3} {L1 L2:List (Int × Int)} {G1 G2:List Nat}
theorem RV.fr (h:RV w B c mc l L1 L2 G1 G2) (hf:Fr (fun _=>False) w w'):RV w' B c mc l L1 L2 G1 G2:=by
 refine ⟨h.d.fr hf (fun _ _ h=>h),h.f.fr hf (fun _ _ h=>h),h.dl,h.fl,h.c1,?_⟩
 rcases h.m with h| ⟨r,n,e,h⟩
 ·exact .inl h
 ·exact .inr ⟨r,n,e,h.fr hf (fun _ _ h=>h)⟩
theorem RV.look (h:RV w B c mc l L1 L2 G1 G2) {x m:Int} (hx:wfI x) (hm:cn (cls x) l=m):(Instr.lookup TMI (.map mc) (.int .i64 x) false).run prog w=.ok (.int .i64 m) w:=by
 rw [←hm]
 rcases h.m with ⟨rfl,rfl⟩| ⟨r,n,rfl,hq⟩
 ·exact Fm.look_none KI uMI hx
 ·exact hq.look KI uMI hx
structure SS (w0 w:World) (B:Nat) (c:Array Value) (mc:Option Nat) (l:List K3) (L1 L2:List (Int × Int)) (G1 G2:List Nat) (Br:Nat) (v:Array Value) (X:List (Option Addr × Nat × List (Int × Int))):Prop where
 h:RV w B c mc l L1 L2 G1 G2
 b:Bk w Br v TSp
 f:Fr (fun _=>False) w0 w
 n:w0.heap.size≤Br
 ne:∀b,b<w0.heap.size→b≠Br
 x:∀s∈X,Cs w s.1 s.2.1 s.2.2∧∀a,s.1=some a→w0.heap.size≤a.block∧a.block≠Br∧a.block<w.heap.size
variable {Br:Nat} {v:Array Value} {X:List (Option Addr × Nat × List (Int × Int))}
theorem SS.fr (h:SS w0 w B c mc l L1 L2 G1 G2 Br v X) (hf:Fr (fun _=>False) w w'):SS w0 w' B c mc l L1 L2 G1 G2 Br v X:=
 ⟨h.h.fr hf,h.b.fr hf (fun _ _ h=>h),h.f.trans hf (fun _ _ h=>h) (fun _ _ h=>h),h.n,h.ne,fun s hs=>⟨(h.x s hs).1.fr hf (fun _ _ h=>h),fun a ha=>⟨((h.x s hs).2 a ha).1,((h.x s hs).2 a ha).2.1,Nat.lt_of_lt_of_le ((h.x s hs).2 a ha).2.2 hf.size⟩⟩⟩
theorem SS.len (h:SS w0 w B c mc l L1 L2 G1 G2 Br v X) {m:Int} (hm:sumL L2=m):Calls prog 105 #[.pointer (some ⟨B,5,none⟩)] w fun e w'=>e=.returned (.int .i64 m)∧w=w':=by
 rw [←hm];exact Bag.Len B 5 c TV L2 G2 w h.h.f
theorem SS.counts (h:SS w0 w B c mc l L1 L2 G1 G2 Br v X) (w1:World) (A:Option Addr) (cc:Nat) (L:List (Int × Int)) (hown:w1.ownsRow w.heap.size TC 2 (.slice A L.length cc) L.length (L.flatMap pc)) (hb:Below w.heap.size w w1):
  SS w0 w1 B c mc l L1 L2 G1 G2 Br v (X++ [(A,cc,L)]):=by
 obtain ⟨A',c',e,hS,hA⟩:=Sl.of_own hown
 cases e
 have h':=h.fr (Fr.of_below' hb _)
 have hlt:=lt_of_heap h.b
 refine ⟨h'.h,h'.b,h'.f,h'.n,h'.ne,fun s hs=>?_⟩
 rcases List.mem_append.1 hs with hs|hs
 ·exact h'.x s hs
 ·obtain rfl:=List.mem_singleton.1 hs
  exact ⟨hS,fun a ha=>by have h1:=hA a ha;have h2:=h.f.size;exact ⟨by omega,by omega,h1.2.2⟩⟩
theorem SS.countsD (h:SS w0 w B c mc l L1 L2 G1 G2 Br v X) (hl:l.length<1000000):Calls prog 64 #[.pointer (some ⟨B,2,none⟩)] w fun e w'=>∃A cc,e=.returned (.slice A L1.length cc)∧SS w0 w' B c mc l L1 L2 G1 G2 Br v (X++ [(A,cc,L1)]):=by
 refine (Bag.Counts B 2 c TV L1 G1 w h.h.d (by have:=h.h.dl.len;omega)).mono ?_
 rintro e w' ⟨v',rfl,hown,hb⟩
 obtain ⟨A,cc,rfl,-,-⟩:=Sl.of_own hown
 exact ⟨A,cc,rfl,h.counts w' A cc L1 hown hb⟩
theorem SS.countsF (h:SS w0 w B c mc l L1 L2 G1 G2 Br v X) (hl:l.length<1000000):Calls prog 64 #[.pointer (some ⟨B,5,none⟩)] w fun e w'=>∃A cc,e=.returned (.slice A L2.length cc)∧SS w0 w' B c mc l L1 L2 G1 G2 Br v (X++ [(A,cc,L2)]):=by
 refine (Bag.Counts B 5 c TV L2 G2 w h.h.f (by have:=h.h.fl.len;omega)).mono ?_
 rintro e w' ⟨v',rfl,hown,hb⟩
 obtain ⟨A,cc,rfl,-,-⟩:=Sl.of_own hown
 exact ⟨A,cc,rfl,h.counts w' A cc L2 hown hb⟩
theorem RV.frS {S:Nat→Prop} (h:RV w B c mc l L1 L2 G1 G2) (hf:Fr S w w') (hs:∀b,b<w0.heap.size→¬S b) (_h0:Fr (fun _=>False) w0 w) (hB:B<w0.heap.size) (h1:∀b∈G1,b<w0.heap.size) (h2:∀b∈G2,b<w0.heap.size) (hr:∀r,mc=some r→r<w0.heap.size):RV w' B c mc l L1 L2 G1 G2:=by
 refine ⟨h.d.fr hf (fun b hb=>hs b ?_),h.f.fr hf (fun b hb=>hs b ?_),h.dl,h.fl,h.c1,?_⟩
 ·rcases List.mem_cons.1 hb with rfl|hb
  ·exact hB
  ·exact h1 b hb
 ·rcases List.mem_cons.1 hb with rfl|hb
  ·exact hB
  ·exact h2 b hb
 ·rcases h.m with h| ⟨r,n,e,h⟩
  ·exact .inl h
  ·exact .inr ⟨r,n,e,h.fr hf (fun b hb=>hs b (by simp at hb;subst hb;exact hr _ e))⟩
theorem SS.put {a0 a1 a2 a3 a4 a5:Value} (h:SS w0 w B c mc l L1 L2 G1 G2 Br #[a0,a1,a2,a3,a4,a5] X) (h0:RV w0 B c mc l L1 L2 G1 G2) (v0 v1 v2 v3 v4 v5:Value):
  SS w0 ((((((w.setCell ⟨Br,0,none⟩ v0).setCell ⟨Br,1,none⟩ v1).setCell ⟨Br,2,none⟩ v2).setCell ⟨Br,3,none⟩ v3).setCell ⟨Br,4,none⟩ v4).setCell ⟨Br,5,none⟩ v5) B c mc l L1 L2 G1 G2 Br #[v0,v1,v2,v3,v4,v5] X:=by
 have hb:Bk ((((((w.setCell ⟨Br,0,none⟩ v0).setCell ⟨Br,1,none⟩ v1).setCell ⟨Br,2,none⟩ v2).setCell ⟨Br,3,none⟩ v3).setCell ⟨Br,4,none⟩ v4).setCell ⟨Br,5,none⟩ v5) Br #[v0,v1,v2,v3,v4,v5] TSp:=(((((h.b.set 0 v0).set 1 v1).set 2 v2).set 3 v3).set 4 v4).set 5 v5
 have fs:∀ (w:World) (o:Nat) (u:Value),Fr (· =Br) w (w.setCell ⟨Br,o,none⟩ u):=fun w o u=>Fr.setCell w ⟨Br,o,none⟩ u rfl
 have tr:∀ {a b d:World},Fr (· =Br) a b→Fr (· =Br) b d→Fr (· =Br) a d:=fun h k=>h.trans k (fun _ _ h=>h) (fun _ _ h=>h)
 have ff:=tr (tr (tr (tr (tr (fs w 0 v0) (fs _ 1 v1)) (fs _ 2 v2)) (fs _ 3 v3)) (fs _ 4 v4)) (fs _ 5 v5)
 generalize ((((((w.setCell ⟨Br,0,none⟩ v0).setCell ⟨Br,1,none⟩ v1).setCell ⟨Br,2,none⟩ v2).setCell ⟨Br,3,none⟩ v3).setCell ⟨Br,4,none⟩ v4).setCell ⟨Br,5,none⟩ v5)=W at *
 refine ⟨?_,hb,h.f.trans ff (fun _ _ h=>h) (fun i hi e=>by have:=h.n;omega),h.n,h.ne,fun s hs=>?_⟩
 ·refine h.h.frS (w0:=w0) ff h.ne h.f (h0.d.lt B (by simp)) (fun b hb=>h0.d.lt b (by simp [hb])) (fun b hb=>h0.f.lt b (by simp [hb])) (fun r e=>?_)
  rcases h0.m with ⟨e',-⟩| ⟨r',n,e',hm⟩
  ·rw [e'] at e;cases e
  ·rw [e'] at e;cases e;exact hm.lt
 ·obtain ⟨h1,h2⟩:=h.x s hs
  exact ⟨h1.fr ff (fun a ha e=>(h2 a ha).2.1 e),fun a ha=>⟨(h2 a ha).1,(h2 a ha).2.1,Nat.lt_of_lt_of_le (h2 a ha).2.2 ff.size⟩⟩
end
theorem s3 {ops:Array Oper} (hops:Eng.fnOps Tryz.f52 3=ops) (a0:Act) (Q:Exit→Act→World→Prop) (w0 w:World) (B:Nat) (c:Array Value) (mc:Option Nat) (l:List K3) (L1 L2:List (Int × Int)) (G1 G2:List Nat) (Br:Nat) (hst:SS w0 w B c mc l L1 L2 G1 G2 Br #[.int .i64 0,.int .i64 0,.int .i64 0,.int .i64 0,.slice none 0 0,.slice none 0 0] []) (h0:RV w0 B c mc l L1 L2 G1 G2) (hl:l.length<1000000) (n r o y:Int) (hn_:Hid (sumL L2=n)) (hr:Hid (cn (cls 1) l=r)) (ho:Hid (cn (cls 2) l=o)) (hy:Hid (cn (cls 3) l=y))
  (hn:a0.tmps.size=34) (h_0:a0.tmps.getD 0 undef=.pointer (some ⟨B,0,none⟩)) (h_2:a0.tmps.getD 2 undef=.pointer (some ⟨Br,0,none⟩))
  (hpost:∀ (x:Nat→Value) (w':World) (A1:Option Addr) (e1:Nat) (A2:Option Addr) (e2:Nat),SS w0 w' B c mc l L1 L2 G1 G2 Br #[.int .i64 n,.int .i64 r,.int .i64 o,.int .i64 y,.slice A1 L1.length e1,.slice A2 L2.length e2] [(A1,e1,L1),(A2,e2,L2)]→Q .normal (Eng.setAll a0 [6,7,8,9,10,11,12,13,14,15,16,17,18,19,20,21,22,23,24,25,26,27,28,29,30,31,32,33] x) w'):
  (Code.region 3 ops true).wp prog Q a0 w:=by
 simp only [Eng.fnOps,Eng.regOps,Tryz.f52,Option.bind_some,Option.getD_some,Nat.reduceEqDiff,↓reduceIte] at hops
 subst hops
 have HSt:=Lib.hid (hst.fr (Fr.drew _ _))
 have hSS:w.drew.cell? ⟨B,1,none⟩=some (.map mc)∧(Instr.lookup TMI (.map mc) (.int .i64 1) false).run prog w.drew=.ok (.int .i64 r) w.drew∧(Instr.lookup TMI (.map mc) (.int .i64 2) false).run prog w.drew=.ok (.int .i64 o) w.drew∧(Instr.lookup TMI (.map mc) (.int .i64 3) false).run prog w.drew=.ok (.int .i64 y) w.drew∧w.drew.frozen? ⟨Br,0,none⟩=false∧w.drew.frozen? ⟨Br,1,none⟩=false∧w.drew.frozen? ⟨Br,2,none⟩=false∧w.drew.frozen? ⟨Br,3,none⟩=false∧w.drew.frozen? ⟨Br,4,none⟩=false∧w.drew.frozen? ⟨Br,5,none⟩=false:=⟨(HSt.out.h.d.1.cell 1).trans HSt.out.h.c1,HSt.out.h.look (wf_small (by omega) (by omega)) hr.out,HSt.out.h.look (wf_small (by omega) (by omega)) ho.out,HSt.out.h.look (wf_small (by omega) (by omega)) hy.out,HSt.out.b.free 0,HSt.out.b.free 1,HSt.out.b.free 2,HSt.out.b.free 3,HSt.out.b.free 4,HSt.out.b.free 5⟩
 refine Eng.regionN [(0,true),(1,true),(2,true),(4,true),(5,true),(6,true),(7,true),(8,true),(9,true),(10,true),(11,true),(12,true),(13,true),(14,true),(15,true),(16,true),(17,true),(18,true),(19,true),(20,true),(21,true),(23,true),(24,true),(25,true),(3,false),(22,false),(26,false),(27,true),(28,false)] (fun w'=>w'.cell? ⟨B,1,none⟩=some (.map mc)∧(Instr.lookup TMI (.map mc) (.int .i64 1) false).run prog w'=.ok (.int .i64 r) w'∧(Instr.lookup TMI (.map mc) (.int .i64 2) false).run prog w'=.ok (.int .i64 o) w'∧(Instr.lookup TMI (.map mc) (.int .i64 3) false).run prog w'=.ok (.int .i64 y) w'∧w'.frozen? ⟨Br,0,none⟩=false∧w'.frozen? ⟨Br,1,none⟩=false∧w'.frozen? ⟨Br,2,none⟩=false∧w'.frozen? ⟨Br,3,none⟩=false∧w'.frozen? ⟨Br,4,none⟩=false∧w'.frozen? ⟨Br,5,none⟩=false) (by kernel_rfl) 34 hn (by kernel_rfl) rfl (by kernel_rfl) (hSS) (fun a b ha hb=>?_)
 subst ha
 have hb0:b 0=.pointer (some ⟨B,0,none⟩):=(hb 0).symm.trans h_0
 have hb2:b 2=.pointer (some ⟨Br,0,none⟩):=(hb 2).symm.trans h_2
 clear hb h_0 h_2
 have HP:=Lib.hid hpost;have HN:=Lib.hid hn
 clear hpost hn
 iterate 24 (refine Eng.Sch.tk ?_)
 refine Eng.Sch.call rfl rfl (by decide) (by kernel_rfl) ?_ (HSt.out.len hn_.out) ?_
 ·go_simp
 rintro e w_1 ⟨rfl,rfl⟩
 refine ⟨_,rfl,hSS,?_⟩
 refine Eng.Sch.call rfl rfl (by decide) (by kernel_rfl) ?_ (HSt.out.countsD hl) ?_
 ·go_simp
 rintro e w2 ⟨A1,e1,rfl,hT⟩
 have HSt1:=Lib.hid (hT)
 clear hT
 refine ⟨_,rfl,⟨(HSt1.out.h.d.1.cell 1).trans HSt1.out.h.c1,HSt1.out.h.look (wf_small (by omega) (by omega)) hr.out,HSt1.out.h.look (wf_small (by omega) (by omega)) ho.out,HSt1.out.h.look (wf_small (by omega) (by omega)) hy.out,HSt1.out.b.free 0,HSt1.out.b.free 1,HSt1.out.b.free 2,HSt1.out.b.free 3,HSt1.out.b.free 4,HSt1.out.b.free 5⟩,?_⟩
 refine Eng.Sch.call rfl rfl (by decide) (by kernel_rfl) ?_ (HSt1.out.countsF hl) ?_
 ·go_simp
 rintro e w3 ⟨A2,e2,rfl,hT⟩
 have HSt2:=Lib.hid (hT)
 have hSS:w3.cell? ⟨B,1,none⟩=some (.map mc)∧(Instr.lookup TMI (.map mc) (.int .i64 1) false).run prog w3=.ok (.int .i64 r) w3∧(Instr.lookup TMI (.map mc) (.int .i64 2) false).run prog w3=.ok (.int .i64 o) w3∧(Instr.lookup TMI (.map mc) (.int .i64 3) false).run prog w3=.ok (.int .i64 y) w3∧w3.frozen? ⟨Br,0,none⟩=false∧w3.frozen? ⟨Br,1,none⟩=false∧w3.frozen? ⟨Br,2,none⟩=false∧w3.frozen? ⟨Br,3,none⟩=false∧w3.frozen? ⟨Br,4,none⟩=false∧w3.frozen? ⟨Br,5,none⟩=false:=⟨(HSt2.out.h.d.1.cell 1).trans HSt2.out.h.c1,HSt2.out.h.look (wf_small (by omega) (by omega)) hr.out,HSt2.out.h.look (wf_small (by omega) (by omega)) ho.out,HSt2.out.h.look (wf_small (by omega) (by omega)) hy.out,HSt2.out.b.free 0,HSt2.out.b.free 1,HSt2.out.b.free 2,HSt2.out.b.free 3,HSt2.out.b.free 4,HSt2.out.b.free 5⟩
 clear hT
 have z0:w3.cell? ⟨Br,0,none⟩=some (.int .i64 0):=HSt2.out.b.cell 0
 have z1:w3.cell? ⟨Br,1,none⟩=some (.int .i64 0):=HSt2.out.b.cell 1
 have z2:w3.cell? ⟨Br,2,none⟩=some (.int .i64 0):=HSt2.out.b.cell 2
 have z3:w3.cell? ⟨Br,3,none⟩=some (.int .i64 0):=HSt2.out.b.cell 3
 have z4:w3.cell? ⟨Br,4,none⟩=some (.slice none 0 0):=HSt2.out.b.cell 4
 have z5:w3.cell? ⟨Br,5,none⟩=some (.slice none 0 0):=HSt2.out.b.cell 5
 refine ⟨_,rfl,hSS,?_⟩
 refine Eng.Sch.tk ?_
 have HSt3:=Lib.hid (HSt2.out.put h0 (.int .i64 n) (.int .i64 r) (.int .i64 o) (.int .i64 y) (.slice A1 L1.length e1) (.slice A2 L2.length e2))
 refine Eng.Sch.step0 rfl rfl (by kernel_rfl) (by go_simp;first|done|with_reducible rfl) (⟨(HSt3.out.h.d.1.cell 1).trans HSt3.out.h.c1,HSt3.out.h.look (wf_small (by omega) (by omega)) hr.out,HSt3.out.h.look (wf_small (by omega) (by omega)) ho.out,HSt3.out.h.look (wf_small (by omega) (by omega)) hy.out,HSt3.out.b.free 0,HSt3.out.b.free 1,HSt3.out.b.free 2,HSt3.out.b.free 3,HSt3.out.b.free 4,HSt3.out.b.free 5⟩) ?_
 have hSS:(((((((w3.setCell ⟨Br,0,none⟩ (.int .i64 n)).setCell ⟨Br,1,none⟩ (.int .i64 r)).setCell ⟨Br,2,none⟩ (.int .i64 o)).setCell ⟨Br,3,none⟩ (.int .i64 y)).setCell ⟨Br,4,none⟩ (.slice A1 L1.length e1)).setCell ⟨Br,5,none⟩ (.slice A2 L2.length e2))).cell? ⟨B,1,none⟩=some (.map mc)∧(Instr.lookup TMI (.map mc) (.int .i64 1) false).run prog (((((((w3.setCell ⟨Br,0,none⟩ (.int .i64 n)).setCell ⟨Br,1,none⟩ (.int .i64 r)).setCell ⟨Br,2,none⟩ (.int .i64 o)).setCell ⟨Br,3,none⟩ (.int .i64 y)).setCell ⟨Br,4,none⟩ (.slice A1 L1.length e1)).setCell ⟨Br,5,none⟩ (.slice A2 L2.length e2)))=.ok (.int .i64 r) (((((((w3.setCell ⟨Br,0,none⟩ (.int .i64 n)).setCell ⟨Br,1,none⟩ (.int .i64 r)).setCell ⟨Br,2,none⟩ (.int .i64 o)).setCell ⟨Br,3,none⟩ (.int .i64 y)).setCell ⟨Br,4,none⟩ (.slice A1 L1.length e1)).setCell ⟨Br,5,none⟩ (.slice A2 L2.length e2)))∧(Instr.lookup TMI (.map mc) (.int .i64 2) false).run prog (((((((w3.setCell ⟨Br,0,none⟩ (.int .i64 n)).setCell ⟨Br,1,none⟩ (.int .i64 r)).setCell ⟨Br,2,none⟩ (.int .i64 o)).setCell ⟨Br,3,none⟩ (.int .i64 y)).setCell ⟨Br,4,none⟩ (.slice A1 L1.length e1)).setCell ⟨Br,5,none⟩ (.slice A2 L2.length e2)))=.ok (.int .i64 o) (((((((w3.setCell ⟨Br,0,none⟩ (.int .i64 n)).setCell ⟨Br,1,none⟩ (.int .i64 r)).setCell ⟨Br,2,none⟩ (.int .i64 o)).setCell ⟨Br,3,none⟩ (.int .i64 y)).setCell ⟨Br,4,none⟩ (.slice A1 L1.length e1)).setCell ⟨Br,5,none⟩ (.slice A2 L2.length e2)))∧(Instr.lookup TMI (.map mc) (.int .i64 3) false).run prog (((((((w3.setCell ⟨Br,0,none⟩ (.int .i64 n)).setCell ⟨Br,1,none⟩ (.int .i64 r)).setCell ⟨Br,2,none⟩ (.int .i64 o)).setCell ⟨Br,3,none⟩ (.int .i64 y)).setCell ⟨Br,4,none⟩ (.slice A1 L1.length e1)).setCell ⟨Br,5,none⟩ (.slice A2 L2.length e2)))=.ok (.int .i64 y) (((((((w3.setCell ⟨Br,0,none⟩ (.int .i64 n)).setCell ⟨Br,1,none⟩ (.int .i64 r)).setCell ⟨Br,2,none⟩ (.int .i64 o)).setCell ⟨Br,3,none⟩ (.int .i64 y)).setCell ⟨Br,4,none⟩ (.slice A1 L1.length e1)).setCell ⟨Br,5,none⟩ (.slice A2 L2.length e2)))∧(((((((w3.setCell ⟨Br,0,none⟩ (.int .i64 n)).setCell ⟨Br,1,none⟩ (.int .i64 r)).setCell ⟨Br,2,none⟩ (.int .i64 o)).setCell ⟨Br,3,none⟩ (.int .i64 y)).setCell ⟨Br,4,none⟩ (.slice A1 L1.length e1)).setCell ⟨Br,5,none⟩ (.slice A2 L2.length e2))).frozen? ⟨Br,0,none⟩=false∧(((((((w3.setCell ⟨Br,0,none⟩ (.int .i64 n)).setCell ⟨Br,1,none⟩ (.int .i64 r)).setCell ⟨Br,2,none⟩ (.int .i64 o)).setCell ⟨Br,3,none⟩ (.int .i64 y)).setCell ⟨Br,4,none⟩ (.slice A1 L1.length e1)).setCell ⟨Br,5,none⟩ (.slice A2 L2.length e2))).frozen? ⟨Br,1,none⟩=false∧(((((((w3.setCell ⟨Br,0,none⟩ (.int .i64 n)).setCell ⟨Br,1,none⟩ (.int .i64 r)).setCell ⟨Br,2,none⟩ (.int .i64 o)).setCell ⟨Br,3,none⟩ (.int .i64 y)).setCell ⟨Br,4,none⟩ (.slice A1 L1.length e1)).setCell ⟨Br,5,none⟩ (.slice A2 L2.length e2))).frozen? ⟨Br,2,none⟩=false∧(((((((w3.setCell ⟨Br,0,none⟩ (.int .i64 n)).setCell ⟨Br,1,none⟩ (.int .i64 r)).setCell ⟨Br,2,none⟩ (.int .i64 o)).setCell ⟨Br,3,none⟩ (.int .i64 y)).setCell ⟨Br,4,none⟩ (.slice A1 L1.length e1)).setCell ⟨Br,5,none⟩ (.slice A2 L2.length e2))).frozen? ⟨Br,3,none⟩=false∧(((((((w3.setCell ⟨Br,0,none⟩ (.int .i64 n)).setCell ⟨Br,1,none⟩ (.int .i64 r)).setCell ⟨Br,2,none⟩ (.int .i64 o)).setCell ⟨Br,3,none⟩ (.int .i64 y)).setCell ⟨Br,4,none⟩ (.slice A1 L1.length e1)).setCell ⟨Br,5,none⟩ (.slice A2 L2.length e2))).frozen? ⟨Br,4,none⟩=false∧(((((((w3.setCell ⟨Br,0,none⟩ (.int .i64 n)).setCell ⟨Br,1,none⟩ (.int .i64 r)).setCell ⟨Br,2,none⟩ (.int .i64 o)).setCell ⟨Br,3,none⟩ (.int .i64 y)).setCell ⟨Br,4,none⟩ (.slice A1 L1.length e1)).setCell ⟨Br,5,none⟩ (.slice A2 L2.length e2))).frozen? ⟨Br,5,none⟩=false:=⟨(HSt3.out.h.d.1.cell 1).trans HSt3.out.h.c1,HSt3.out.h.look (wf_small (by omega) (by omega)) hr.out,HSt3.out.h.look (wf_small (by omega) (by omega)) ho.out,HSt3.out.h.look (wf_small (by omega) (by omega)) hy.out,HSt3.out.b.free 0,HSt3.out.b.free 1,HSt3.out.b.free 2,HSt3.out.b.free 3,HSt3.out.b.free 4,HSt3.out.b.free 5⟩
 refine Eng.Sch.end_ [6,7,8,9,10,11,12,13,14,15,16,17,18,19,20,21,22,23,24,25,26,27,28,29,30,31,32,33] HN.out (by kernel_rfl) (by kernel_rfl) ?_
 exact HP.out _ _ A1 e1 A2 e2 HSt3.out
abbrev zeroS:Array Value:= #[.int .i64 0,.int .i64 0,.int .i64 0,.int .i64 0,.slice none 0 0,.slice none 0 0]
def ShPost (l:List K3) (w:World) (e:Ending) (w':World):Prop:=∃x A1 c1 A2 c2,e=.returned (shv x A1 A2 c1 c2)∧IsShp l x∧Cs w' A1 c1 x.D∧Cs w' A2 c2 x.F∧(∀a,A1=some a→w.heap.size≤a.block∧a.block<w'.heap.size)∧(∀a,A2=some a→w.heap.size≤a.block∧a.block<w'.heap.size)∧Fr (fun _=>False) w w'
theorem Shape_ (B n:Nat) (l:List K3) (F:List Nat) (w:World) (h:VB w B n l F) (hl:l.length<1000000):Calls prog 52 #[.pointer (some ⟨B,0,none⟩)] w (ShPost l w):=by
 obtain ⟨c,mc,L1,L2,G1,G2,hv⟩:=h.rv
 have hlt:=h.lt B h.mem
 have H0:=Lib.hid (show SS w (w.alloc (.cells zeroS TSp)) B c mc l L1 L2 G1 G2 w.heap.size zeroS [] from ⟨hv.fr (Fr.alloc _ _ _),Bk.new _ _ _,Fr.alloc _ _ _,Nat.le_refl _,fun b hb=>by omega,by simp⟩)
 have HV:=Lib.hid hv
 clear h hv
 go_enter func52,ntmps52
 go_upto_region 3 with (fail)
 refine s3 (by kernel_rfl) _ _ w _ B c mc l L1 L2 G1 G2 w.heap.size H0.out HV.out hl _ _ _ _ (Lib.hid rfl) (Lib.hid rfl) (Lib.hid rfl) (Lib.hid rfl) rfl rfl rfl ?_
 intro y w1 A1 e1 A2 e2 hst
 simp only [Eng.setAll,Act.put,List.setIfInBounds_toArray,List.set_cons_succ,List.set_cons_zero]
 have H1:=Lib.hid hst
 clear hst
 go_wp2_with fail
 exact bodyPost_ret (results_cell_row rfl _ _ w.heap.size TSp _ (0,0) _ rfl H1.out.b underlying108 rfl (by kernel_rfl)) rfl ⟨⟨sumL L2,_,_,_,L1,L2⟩,A1,e1,A2,e2,rfl,⟨by show sumL L2=_;rw [HV.out.fl.sum];exact cn_true l,rfl,rfl,rfl,HV.out.dl,HV.out.fl⟩,(H1.out.x (A1,e1,L1) (by simp)).1,(H1.out.x (A2,e2,L2) (by simp)).1,fun a ha=>⟨((H1.out.x (A1,e1,L1) (by simp)).2 a ha).1,((H1.out.x (A1,e1,L1) (by simp)).2 a ha).2.2⟩,fun a ha=>⟨((H1.out.x (A2,e2,L2) (by simp)).2 a ha).1,((H1.out.x (A2,e2,L2) (by simp)).2 a ha).2.2⟩,H1.out.f⟩
end Shape
set_option maxRecDepth 100000
set_option maxHeartbeats 1000000
namespace Shape
open BagP Bag ShapeP Fm
theorem six {w:World} {Br:Nat} {a0 a1 a2 a3 a4 a5:Value} (h:Bk w Br #[a0,a1,a2,a3,a4,a5] TSp) (v0 v1 v2 v3 v4 v5:Value):
  Bk ((((((w.setCell ⟨Br,0,none⟩ v0).setCell ⟨Br,1,none⟩ v1).setCell ⟨Br,2,none⟩ v2).setCell ⟨Br,3,none⟩ v3).setCell ⟨Br,4,none⟩ v4).setCell ⟨Br,5,none⟩ v5) Br #[v0,v1,v2,v3,v4,v5] TSp∧
  Fr (· =Br) w ((((((w.setCell ⟨Br,0,none⟩ v0).setCell ⟨Br,1,none⟩ v1).setCell ⟨Br,2,none⟩ v2).setCell ⟨Br,3,none⟩ v3).setCell ⟨Br,4,none⟩ v4).setCell ⟨Br,5,none⟩ v5):=by
 have fs:∀ (w:World) (o:Nat) (u:Value),Fr (· =Br) w (w.setCell ⟨Br,o,none⟩ u):=fun w o u=>Fr.setCell w ⟨Br,o,none⟩ u rfl
 have tr:∀ {a b d:World},Fr (· =Br) a b→Fr (· =Br) b d→Fr (· =Br) a d:=fun h k=>h.trans k (fun _ _ h=>h) (fun _ _ h=>h)
 exact ⟨(((((h.set 0 v0).set 1 v1).set 2 v2).set 3 v3).set 4 v4).set 5 v5,tr (tr (tr (tr (tr (fs w 0 v0) (fs _ 1 v1)) (fs _ 2 v2)) (fs _ 3 v3)) (fs _ 4 v4)) (fs _ 5 v5)⟩
theorem Of (A:Option Addr) (c:Nat) (ys:List Pl) (w:World) (hS:Sl w 6 A ys.length c (ys.flatMap plc)) (hwf:∀x∈ys,okK x.k) (hy:ys.length≤1000):
  Calls prog 48 #[.slice A ys.length c] w (ShPost (ys.map Pl.k) w):=by
 have f0:Fr (fun _=>False) w ((w.alloc (.cells zeroS TSp)).alloc (.cells zeroV TV)):=(Fr.alloc _ _ _).trans (Fr.alloc (fun _=>False) _ _) (fun _ _ h=>h) (fun _ _ h=>h)
 have hb0:Bk ((w.alloc (.cells zeroS TSp)).alloc (.cells zeroV TV)) w.heap.size zeroS TSp:=(Bk.new w zeroS TSp).fr (Fr.alloc (fun _=>False) _ _) (fun _ _ h=>h)
 have hv0:VB ((w.alloc (.cells zeroS TSp)).alloc (.cells zeroV TV)) (w.heap.size+1) 0 [] [w.heap.size+1]:=by
  have:=VB.new (w.alloc (.cells zeroS TSp)) 0
  rwa [World.size_alloc] at this
 have ha1:Ar ((w.alloc (.cells zeroS TSp)).alloc (.cells zeroV TV)) none 0 [] [w.heap.size+1]:=⟨Sl.empty _ _,fun h=>absurd rfl h⟩
 have ha2:Ar ((w.alloc (.cells zeroS TSp)).alloc (.cells zeroV TV)) A c ys [w.heap.size+1]:=⟨hS.fr f0 (fun _ _ h=>h),fun hne a ha e=>by
  have hne':ys.flatMap plc≠ []:=fun e=>by
   have:=congrArg List.length e
   rw [flat_length plc_len] at this
   exact hne (List.eq_nil_of_length_eq_zero (by simp at this;omega))
  have:=hS.lt hne' a ha
  simp at e;omega⟩
 have HAp:=Lib.hid (Apply (w.heap.size+1) 0 [] [w.heap.size+1] none A 0 c [] ys _ hv0 ha1 ha2 (by simp) hwf (by simp) hy (by simp;omega) (by simp;omega))
 have HB0:=Lib.hid hb0;have HF0:=Lib.hid f0
 clear hS hwf f0 hb0 hv0 ha1 ha2
 go_enter func48,ntmps48
 go_wp2_with fail
 refine HAp.out.mono ?_
 rintro e w1 ⟨rfl,F',hv,ht⟩
 have hv1:VB w1 (w.heap.size+1) (0+3*(([]:List Pl).length+ys.length)) (ys.map Pl.k) F':=hv
 have HS:=Lib.hid (Shape_ (w.heap.size+1) _ (ys.map Pl.k) F' w1 hv1 (by simp;omega))
 have hb1:=HB0.out.fr ht.fr (fun b hb e=>by simp at hb e;omega)
 have f1:=HF0.out.trans ht.fr (T:=fun _=>False) (fun _ _ h=>h) (fun i hi e=>by simp at e;omega)
 have HB1:=Lib.hid hb1;have HF1:=Lib.hid f1
 have hlt:=lt_of_heap hb1
 clear hv hv1 ht hb1 f1 HB0 HF0 HAp
 go_wp2_with fail
 refine HS.out.mono ?_
 rintro e w2 ⟨x,A1,c1,A2,c2,rfl,hx,s1,s2,r1,r2,f2⟩
 have hb2:=HB1.out.fr f2 (fun _ _ h=>h)
 obtain ⟨n_,r_,o_,y_,D,Fn⟩:=x
 have z0:w2.cell? ⟨w.heap.size,0,none⟩=some (.int .i64 0):=hb2.cell 0
 have z1:w2.cell? ⟨w.heap.size,1,none⟩=some (.int .i64 0):=hb2.cell 1
 have z2:w2.cell? ⟨w.heap.size,2,none⟩=some (.int .i64 0):=hb2.cell 2
 have z3:w2.cell? ⟨w.heap.size,3,none⟩=some (.int .i64 0):=hb2.cell 3
 have z4:w2.cell? ⟨w.heap.size,4,none⟩=some (.slice none 0 0):=hb2.cell 4
 have z5:w2.cell? ⟨w.heap.size,5,none⟩=some (.slice none 0 0):=hb2.cell 5
 have g0:=hb2.free 0;have g1:=hb2.free 1;have g2:=hb2.free 2;have g3:=hb2.free 3;have g4:=hb2.free 4;have g5:=hb2.free 5
 have HX:=Lib.hid hx;have H1:=Lib.hid s1;have H2:=Lib.hid s2;have R1:=Lib.hid r1;have R2:=Lib.hid r2
 have HF2:=Lib.hid (HF1.out.trans f2 (T:=fun _=>False) (fun _ _ h=>h) (fun _ _ h=>h))
 have HB2:=Lib.hid (six hb2 (.int .i64 n_) (.int .i64 r_) (.int .i64 o_) (.int .i64 y_) (.slice A1 D.length c1) (.slice A2 Fn.length c2))
 clear hb2 hx s1 s2 r1 r2 f2 HS HB1
 go_wp2_with fail
 have hsz:=HB2.out.2.size
 have hf1:=HF1.out.size
 exact bodyPost_ret (results_cell_row rfl _ _ w.heap.size TSp _ (0,0) _ rfl HB2.out.1 underlying108 rfl (by kernel_rfl)) rfl ⟨⟨n_,r_,o_,y_,D,Fn⟩,A1,c1,A2,c2,rfl,HX.out,
  H1.out.fr HB2.out.2 (fun a ha e=>by have:=R1.out a ha;omega),H2.out.fr HB2.out.2 (fun a ha e=>by have:=R2.out a ha;omega),fun a ha=>by have:=R1.out a ha;omega,fun a ha=>by have:=R2.out a ha;omega,HF2.out.trans HB2.out.2 (fun _ _ h=>h) (fun i hi e=>by omega)⟩
theorem two_cells {w:World} {k:Nat} {L:List (Int × Int)} {b o:Nat} (hk:k<L.length) (hc:∀j u,(L.flatMap pc)[j]? =some u→w.cell? ⟨b,o+j,none⟩=some u):
  w.cell? ⟨b,o+k*2,none⟩=some (.int .i64 L[k].1)∧w.cell? ⟨b,o+k*2+1,none⟩=some (.int .i64 L[k].2):=by
 have key:∀j u,j<2→(pc L[k])[j]? =some u→w.cell? ⟨b,o+(k*2+j),none⟩=some u:=fun j u hj hu=>hc _ u (by rw [flat_at pc_len hk hj];exact hu)
 exact ⟨key 0 _ (by omega) rfl,key 1 _ (by omega) rfl⟩
theorem greatest (A:Option Addr) (c:Nat) (L:List (Int × Int)) (w:World) (hS:Cs w A c L):Calls prog 101 #[.slice A L.length c] w fun e w'=>e=.returned (.int .i64 (great L))∧Fr (fun _=>False) w w':=by
 have hlen:L.length≤9223372036854775807:=by have:=hS.2.1;have:=hS.2.2.1;unfold maxLen at this;omega
 have HS:=Lib.hid hS
 clear hS
 go_enter func101,ntmps101
 go_wp2_with fail
 go_loopg [3,4,5,8] L.length (fun gk m_ _ _ i wr=>∃k:Nat,m_=.int .i64 (great (L.take k))∧i=.int .i64 k∧k≤L.length∧gk=L.length-k∧Fr (fun _=>False) w wr)
 case atStart=>exact ⟨0,rfl,rfl,Nat.zero_le _,rfl,Fr.refl _ _⟩
 case round=>
  obtain ⟨k,rfl,rfl,hk,hg,hfr⟩:=hrel
  have HG:=Lib.hid hg;have HFr:=Lib.hid hfr
  clear hg hfr
  by_cases hlt:k<L.length
  ·obtain ⟨b1,o1,rfl,hb1,hc1⟩:=(HS.out.fr HFr.out (fun _ _ h=>h)).at hlt (by omega)
   obtain ⟨d0,d1⟩:=two_cells hlt hc1
   have hT:L.take (k+1)=L.take k++ [L[k]]:=List.take_succ_eq_append_getElem hlt
   have HF2:=fun v=>Lib.hid (HFr.out.trans (Fr.alloc (fun _=>False) wr v) (T:=fun _=>False) (fun _ _ h=>h) (fun _ _ h=>h))
   by_cases hk0:k=0
   ·have q:((k:Int)==0)=true:=by simp [hk0]
    have HE:Hid (great (L.take (k+1))=L[k].1):=by show _=_;rw [hT];subst hk0;simp [great]
    have HK0:=Lib.hid hk0
    clear hT hc1 hk0
    generalize L[k]=x at *
    obtain ⟨x1,x2⟩:=x
    dsimp only at d0 d1 HE
    generalize great (L.take k)=g at *
    go_wp2_with fail
    go_roundg (L.length-(k+1))
    case rel=>exact ⟨k+1,by rw [HE.out],by go_num,by omega,rfl,(HF2 _).out⟩
    case measure=>have:=HG.out;omega
   ·have q:((k:Int)==0)=false:=by simp [hk0]
    have HE:Hid (great (L.take (k+1))=max (great (L.take k)) L[k].1):=by
     show _=_
     rw [hT];exact great_snoc (fun e=>hk0 (by have:=congrArg List.length e;rw [List.length_take] at this;simp only [List.length_nil] at this;omega)) _
    have HK0:=Lib.hid hk0
    clear hT hc1 hk0
    generalize L[k]=x at *
    obtain ⟨x1,x2⟩:=x
    dsimp only at d0 d1 HE
    generalize great (L.take k)=g at *
    by_cases hgt:g<x1
    ·have hd:decide (g<x1)=true:=by simpa using hgt
     have HM:Hid (max g x1=x1):=by show _=_;omega
     clear hgt
     go_wp2_with fail
     go_roundg (L.length-(k+1))
     case rel=>exact ⟨k+1,by rw [HE.out,HM.out],by go_num,by omega,rfl,(HF2 _).out⟩
     case measure=>have:=HG.out;omega
    ·have hd:decide (g<x1)=false:=by simpa using hgt
     have HM:Hid (max g x1=g):=by show _=_;omega
     clear hgt
     go_wp2_with fail
     go_roundg (L.length-(k+1))
     case rel=>exact ⟨k+1,by rw [HE.out,HM.out],by go_num,by omega,rfl,(HF2 _).out⟩
     case measure=>have:=HG.out;omega
  ·obtain rfl:k=L.length:=by omega
   have HE:Hid (L.take L.length=L):=List.take_length
   go_wp2_with fail
   go_ret
   exact ⟨by rw [HE.out];rfl,HFr.out⟩
theorem Deepest (x:Shp) (A1 A2:Option Addr) (c1 c2:Nat) (w:World) (hS:Cs w A1 c1 x.D):Calls prog 49 #[shv x A1 A2 c1 c2] w fun e w'=>e=.returned (.int .i64 (great x.D))∧Fr (fun _=>False) w w':=by
 have fa:=Fr.alloc (fun _=>False) w (.cells (sha x A1 A2 c1 c2) TSp)
 have HG:=Lib.hid (greatest A1 c1 x.D (w.alloc (.cells (sha x A1 A2 c1 c2) TSp)) (hS.fr fa (fun _ _ h=>h)))
 have HF:=Lib.hid fa
 clear hS fa
 obtain ⟨n_,r_,o_,y_,D,Fn⟩:=x
 dsimp only at HG
 go_enter func49,ntmps49
 go_wp2_with fail
 refine HG.out.mono ?_
 rintro e w1 ⟨rfl,hf⟩
 have HF1:=Lib.hid (HF.out.trans hf (T:=fun _=>False) (fun _ _ h=>h) (fun _ _ h=>h))
 clear hf HG HF
 go_wp2_with fail
 go_ret
 exact ⟨rfl,HF1.out⟩
theorem Widest (x:Shp) (A1 A2:Option Addr) (c1 c2:Nat) (w:World) (hS:Cs w A2 c2 x.F):Calls prog 100 #[shv x A1 A2 c1 c2] w fun e w'=>e=.returned (.int .i64 (great x.F))∧Fr (fun _=>False) w w':=by
 have fa:=Fr.alloc (fun _=>False) w (.cells (sha x A1 A2 c1 c2) TSp)
 have HG:=Lib.hid (greatest A2 c2 x.F (w.alloc (.cells (sha x A1 A2 c1 c2) TSp)) (hS.fr fa (fun _ _ h=>h)))
 have HF:=Lib.hid fa
 clear hS fa
 obtain ⟨n_,r_,o_,y_,D,Fn⟩:=x
 dsimp only at HG
 go_enter func100,ntmps100
 go_wp2_with fail
 refine HG.out.mono ?_
 rintro e w1 ⟨rfl,hf⟩
 have HF1:=Lib.hid (HF.out.trans hf (T:=fun _=>False) (fun _ _ h=>h) (fun _ _ h=>h))
 clear hf HG HF
 go_wp2_with fail
 go_ret
 exact ⟨rfl,HF1.out⟩
end Shape
end Go.Proofs.YtgfjpnpbkkadpaaGreat
