/- DredGiven: for every input the statement's function answers true, and the input reads as it did: no condition. -/
import Derived.Test.YtgfjpnpbkkadpaaGreatLaw22g
import Derived.Test.YtgfjpnpbkkadpaaGreatOps2
import Derived.Test.YtgfjpnpbkkadpaaGreatRows
import Derived.OpenShut
import Derived.ShutString
namespace Go.Proofs.YtgfjpnpbkkadpaaGreat.dredGiven
set_option maxRecDepth 100000
open Go.ChangeShapes Go.WideShapes Go.ChangeAt Go.RowKit Go.Deep
theorem lifted (os:Os) (started:os.Started) (H:Type) (enc:TypeId × Value→H):
  ReturnsInHanded {} Tryz.checked os 9 .any (Rows.dredGivenSpec.pre6 enc Tryz.prog Tryz.f9 Rows.dredGivenRow.domain false) (Rows.dredGivenSpec.post enc Tryz.prog Tryz.f9 false true false false):=by
 refine returnsInHanded_of_change (C:=Tryz.checked) own started (by kernel_rfl) Tryz.func9
  (ChangeSpec.witness6 (enc:=enc) (C:=Tryz.checked) false ⟨#[],#[.slice none 0 0,.int .i64 0,.int .u8 0],[]⟩ 8 (by kernel_rfl) (by kernel_rfl) (by kernel_rfl) (by kernel_rfl)) ?_
 intro W base args ds gs before hval0 hW hcnd _
 have hval:∀ (j:Nat) t v,Tryz.f9.params[j]? =some t→args[j]? =some v→Value.okWide Tryz.prog W .any base t v:=hval0
 have hW':=hW
 obtain ⟨p,q,hA0,hV,rfl,hfz,hnd⟩:=hW
 have hA:DataW.TrodAll enc Tryz.prog W 0 (fun _=>true) true Tryz.f9.params.toList args.toList ds p:=hA0
 rw [Tryz.params9] at hA hval
 obtain ⟨v0,vs0,d0,ds0,p0,q0,hargs0,rfl,rfl,h0,r0⟩:=trodAll_cons hA
 obtain ⟨v1,vs1,d1,ds1,p1,q1,hargs1,rfl,rfl,h1,r1⟩:=trodAll_cons r0
 subst hargs1
 obtain ⟨v2,vs2,d2,ds2,p2,q2,hargs2,rfl,rfl,h2,r2⟩:=trodAll_cons r1
 subst hargs2
 obtain ⟨rfl,rfl,rfl⟩:=trodAll_nil r2
 obtain rfl:args= #[v0,v1,v2]:=by cases args;simp_all
 obtain ⟨rfl,rfl⟩:=trodVars_none hV
 have k0:=h0
 have lt0:∀x∈p0,x.block<W.heap.size:=by obtain ⟨m,hm⟩:=k0;exact DataW.trod_lt m _ _ _ hm
 obtain ⟨a0,len0,cap0,rfl⟩:=okWide_slice Tryz.underlying27 (hval 0 27 v0 rfl rfl)
 obtain ⟨l0,hlen0,hS0,hG0⟩:∃l:List (Sn),len0=l.length∧Sl W 9 a0 l.length cap0 (l.flatMap (SetW.scs))∧∀a∈l,(Sn.ok) a:=by
  obtain ⟨fuel,hf⟩:=h0
  obtain ⟨A,cap,xs,hcs,hS,hG⟩:=open_sl Tryz.underlying27 (by kernel_rfl) (by omega) (SetW.scs) (Sn.ok) (SetW.scs_len) (fun n cs' y h=>open_Span h) hf
  simp [Value.cells] at hcs
  obtain ⟨rfl,rfl,rfl⟩:=hcs
  exact ⟨xs,rfl,hS,hG⟩
 subst hlen0
 have k1:=h1
 have lt1:∀x∈p1,x.block<W.heap.size:=by obtain ⟨m,hm⟩:=k1;exact DataW.trod_lt m _ _ _ hm
 obtain ⟨n1,rfl,-,-,wf1⟩:=open_int Tryz.underlying3 (hval 1 3 v1 rfl rfl) h1
 have k2:=h2
 have lt2:∀x∈p2,x.block<W.heap.size:=by obtain ⟨m,hm⟩:=k2;exact DataW.trod_lt m _ _ _ hm
 obtain ⟨n2,rfl,-,-,wf2⟩:=open_int Tryz.underlying5 (hval 2 5 v2 rfl rfl) h2
 clear hA0 hval0
 refine (Law22.given a0 cap0 l0 n1 n2 W ⟨hS0,hG0⟩ (in64_of wf1) (Law22.u8_of wf2)).mono fun e W' ⟨he,bel⟩=>?_
 subst he
 exact ⟨_,rfl,_,_,_,[],_,[],hW',trodAll_mk1 (shut_bool Tryz.underlying4 _),(trodAll_cons_mk (Below.trod laidOut (by kernel_rfl) (of_decide_eq_true (by kernel_rfl)) k0 bel lt0) (trodAll_cons_mk (Below.trod laidOut (by kernel_rfl) (of_decide_eq_true (by kernel_rfl)) k1 bel lt1) (trodAll_cons_mk (Below.trod laidOut (by kernel_rfl) (of_decide_eq_true (by kernel_rfl)) k2 bel lt2) trodAll_mk0))),rfl,bel.frame _,fun h=>by cases h⟩
theorem and_of {a b:Bool} (ha:a=true) (hb:b=true):(a&&b)=true:=by rw [ha,hb];rfl
theorem j0:(Rows.dredGivenRow.wf (OpenSpec.ofChange Rows.dredGivenSpec))=true:=by kernel_rfl
theorem j1:(laidOutB Tryz.pinned.checked.prog)=true:=by kernel_rfl
theorem j2:(mapsRowed Tryz.pinned.checked.prog)=true:=by kernel_rfl
theorem j3:(Tryz.f9.params.all (Tryz.pinned.checked.prog.readableRec ·))=true∧(namedTie Tryz.pinned.checked.prog Rows.dredGivenRow.named Rows.dredGivenSpec.vars)=true∧(Rows.dredGivenRow.stops== [])=true∧(Tryz.pinned.checked.prog.stops== [])=true∧(Rows.dredGivenRow.knobs== [])=true∧(Tryz.pinned.checked.prog.stopKnobs== [])=true:=⟨by kernel_rfl,by kernel_rfl,by kernel_rfl,by kernel_rfl,by kernel_rfl,by kernel_rfl⟩
theorem j4:(Rows.dredGivenRow.inPlace==Tryz.pinned.checked.prog.inPlace 9)=true∧(Rows.dredGivenRow.unfollowed==Tryz.pinned.checked.prog.unfollowed 9)=true∧(Rows.dredGivenRow.recurses==Tryz.pinned.checked.prog.recurses 9)=true∧(Rows.dredGivenRow.named==Tryz.pinned.checked.prog.varsNamed 9)=true:=⟨by kernel_rfl,by kernel_rfl,by kernel_rfl,by kernel_rfl⟩
theorem j5:(Rows.dredGivenRow.maps==(Tryz.f9.params.toList++Rows.dredGivenSpec.plain.varTypes Tryz.pinned.checked.prog).any (Tryz.pinned.checked.prog.mapsRec ·))=true∧(Rows.dredGivenRow.ifaces==(Tryz.f9.params.toList++Rows.dredGivenSpec.plain.varTypes Tryz.pinned.checked.prog).any (Tryz.pinned.checked.prog.ifacesRec ·))=true∧(Rows.dredGivenRow.mapsOut==Tryz.pinned.checked.prog.mapsAmong Tryz.f9.resultTypes.toList)=true∧(Rows.dredGivenRow.loops==(Tryz.f9.params.toList++Rows.dredGivenSpec.plain.varTypes Tryz.pinned.checked.prog).any (Tryz.pinned.checked.prog.loopsFrom ·))=true:=⟨by kernel_rfl,by kernel_rfl,by kernel_rfl,by kernel_rfl⟩
theorem j6:(Rows.dredGivenRow.wideKeys==(Tryz.f9.params.toList++Rows.dredGivenSpec.plain.varTypes Tryz.pinned.checked.prog++Tryz.f9.resultTypes.toList).any (Tryz.pinned.checked.prog.wideKeysFrom ·))=true:=by kernel_rfl
theorem j7:(Rows.dredGivenSpec.vars.all (Tryz.pinned.checked.prog.varReadable ·))=true∧(Tryz.f9.resultTypes.all (fun t=>Tryz.pinned.checked.prog.readableRec t&&decide (t<Tryz.pinned.checked.prog.types.size)))=true∧(Rows.dredGivenRow.ifacesOut==Tryz.f9.resultTypes.toList.any (Tryz.pinned.checked.prog.ifacesRec ·))=true∧(Rows.dredGivenRow.loopsOut==Tryz.f9.resultTypes.toList.any (Tryz.pinned.checked.prog.loopsFrom ·))=true∧(Rows.dredGivenRow.plainKeys==Tryz.pinned.checked.prog.plainKeys)=true∧(Rows.dredGivenRow.shortTexts.isNone)=true∧(Tryz.pinned.checked.prog.stopsHeard)=true∧(Tryz.pinned.checked.prog.mayEnter)=true:=⟨by kernel_rfl,by kernel_rfl,by kernel_rfl,by kernel_rfl,by kernel_rfl,by kernel_rfl,by kernel_rfl,by kernel_rfl⟩
theorem j8:(Rows.dredGivenRow.lifted==Tryz.pinned.checked.prog.liftsFinal)=true∧(Tryz.pinned.checked.prog.make==some Rows.dredGivenRow.make)=true∧(Rows.dredGivenRow.kinds==(if Rows.dredGivenRow.domain.isEmpty then [] else Tryz.f9.params.toList.map fun t=>match Tryz.pinned.checked.prog.underlying t with|some (.int k)=>some k|_=>none))=true∧(Rows.dredGivenRow.pinned==Rows.dredGivenRow.pinnedBy)=true:=⟨by kernel_rfl,by kernel_rfl,by kernel_rfl,by kernel_rfl⟩
theorem j9:(Rows.dredGivenRow.veiled==(Tryz.f9.params.toList++Rows.dredGivenSpec.plain.varTypes Tryz.pinned.checked.prog++Tryz.f9.resultTypes.toList).any (Tryz.pinned.checked.prog.veiledRec ·))=true∧(Rows.dredGivenRow.veiledFits Tryz.pinned.checked.prog Tryz.f9.params.toList (Tryz.f9.params.toList++Rows.dredGivenSpec.plain.varTypes Tryz.pinned.checked.prog++Tryz.f9.resultTypes.toList))=true:=⟨by kernel_rfl,by kernel_rfl⟩
theorem closed:joinedFacts Tryz.pinned.checked.prog 9 Tryz.f9 Rows.dredGivenSpec Rows.dredGivenRow=true:=by
 unfold joinedFacts
 exact (and_of (and_of (and_of (and_of (and_of (and_of (and_of (and_of (and_of (and_of (and_of (and_of (and_of (and_of (and_of (and_of (and_of (and_of (and_of (and_of (and_of (and_of (and_of (and_of (and_of (and_of (and_of (and_of (and_of (and_of (and_of j0 j1) j2) j3.1) j3.2.1) j3.2.2.1) j3.2.2.2.1) j3.2.2.2.2.1) j3.2.2.2.2.2) j4.1) j4.2.1) j4.2.2.1) j4.2.2.2) j5.1) j5.2.1) j5.2.2.1) j5.2.2.2) j6) j7.1) j7.2.1) j7.2.2.1) j7.2.2.2.1) j7.2.2.2.2.1) j7.2.2.2.2.2.1) j7.2.2.2.2.2.2.1) j7.2.2.2.2.2.2.2) j8.1) j8.2.1) j8.2.2.1) j8.2.2.2) j9.1) j9.2)
theorem named:Tryz.pinned.checked.prog.funcNamed Rows.dredGivenRow.func=some 9:=by kernel_rfl
theorem over:Rows.dredGivenRow.holds Tryz.pinned (OpenSpec.ofChange Rows.dredGivenSpec):=
 OpenClaim.holds_of_wide 9 Tryz.f9 rfl rfl rfl rfl rfl rfl rfl ⟨rfl,rfl,rfl,rfl,rfl⟩ rfl rfl rfl rfl rfl named Tryz.func9 closed
  (of_decide_eq_true (by kernel_rfl)) (by unfold Func.isWrapper;first| (rw [if_pos (by decide+kernel)];kernel_rfl)| (rw [if_neg (by decide+kernel)];exact ⟨rfl,rfl⟩))
  (fun os started H enc _=>lifted os started H enc)
theorem proved:Rows.DredGivenSaid:=over
end Go.Proofs.YtgfjpnpbkkadpaaGreat.dredGiven
