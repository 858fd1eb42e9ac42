/- DredFinds: for every input the statement's function answers true, and the input reads as it did: no condition. -/
import Derived.Test.YtgfjpnpbkkadpaaGreatLaw22b
import Derived.Test.YtgfjpnpbkkadpaaGreatOps2
import Derived.Test.YtgfjpnpbkkadpaaGreatRows
import Derived.OpenShut
import Derived.ShutString
namespace Go.Proofs.YtgfjpnpbkkadpaaGreat.dredFinds
set_option maxRecDepth 100000
open Go.ChangeShapes Go.WideShapes Go.ChangeAt Go.RowKit Go.Deep
theorem lifted (os:Os) (started:os.Started) (H:Type) (enc:TypeId × Value→H):
  ReturnsInHanded {} Tryz.checked os 10 .any (Rows.dredFindsSpec.pre6 enc Tryz.prog Tryz.f10 Rows.dredFindsRow.domain false) (Rows.dredFindsSpec.post enc Tryz.prog Tryz.f10 false true false false):=by
 refine returnsInHanded_of_change (C:=Tryz.checked) own started (by kernel_rfl) Tryz.func10
  (ChangeSpec.witness6 (enc:=enc) (C:=Tryz.checked) false ⟨#[],#[.slice none 0 0],[]⟩ 8 (by kernel_rfl) (by kernel_rfl) (by kernel_rfl) (by kernel_rfl)) ?_
 intro W base args ds gs before hval0 hW hcnd _
 have hval:∀ (j:Nat) t v,Tryz.f10.params[j]? =some t→args[j]? =some v→Value.okWide Tryz.prog W .any base t v:=hval0
 have hW':=hW
 obtain ⟨p,q,hA0,hV,rfl,hfz,hnd⟩:=hW
 have hA:DataW.TrodAll enc Tryz.prog W 0 (fun _=>true) true Tryz.f10.params.toList args.toList ds p:=hA0
 rw [Tryz.params10] at hA hval
 obtain ⟨v0,vs0,d0,ds0,p0,q0,hargs0,rfl,rfl,h0,r0⟩:=trodAll_cons hA
 obtain ⟨rfl,rfl,rfl⟩:=trodAll_nil r0
 obtain rfl:args= #[v0]:=by cases args;simp_all
 obtain ⟨rfl,rfl⟩:=trodVars_none hV
 have k0:=h0
 have lt0:∀x∈p0,x.block<W.heap.size:=by obtain ⟨m,hm⟩:=k0;exact DataW.trod_lt m _ _ _ hm
 obtain ⟨a0,len0,cap0,rfl⟩:=okWide_slice Tryz.underlying49 (hval 0 49 v0 rfl rfl)
 obtain ⟨l0,hlen0,hS0,hG0⟩:∃l:List (SetF.Lv),len0=l.length∧Sl W 1 a0 l.length cap0 (l.flatMap (SetF.lvc))∧∀a∈l,(SetF.Rd W) a:=by
  obtain ⟨fuel,hf⟩:=h0
  obtain ⟨A,cap,xs,hcs,hS,hG⟩:=open_sl Tryz.underlying49 (by kernel_rfl) (by omega) (SetF.lvc) (SetF.Rd W) (SetF.lvc_len) (fun n cs' y h=>open_Lv h) hf
  simp [Value.cells] at hcs
  obtain ⟨rfl,rfl,rfl⟩:=hcs
  exact ⟨xs,rfl,hS,hG⟩
 subst hlen0
 clear hA0 hval0
 refine (Law22.finds a0 cap0 l0 W ⟨hS0,hG0⟩).mono fun e W' ⟨he,bel⟩=>?_
 subst he
 exact ⟨_,rfl,_,_,_,[],_,[],hW',trodAll_mk1 (shut_bool Tryz.underlying4 _),(trodAll_cons_mk (Below.trod laidOut (by kernel_rfl) (of_decide_eq_true (by kernel_rfl)) k0 bel lt0) trodAll_mk0),rfl,bel.frame _,fun h=>by cases h⟩
theorem and_of {a b:Bool} (ha:a=true) (hb:b=true):(a&&b)=true:=by rw [ha,hb];rfl
theorem j0:(Rows.dredFindsRow.wf (OpenSpec.ofChange Rows.dredFindsSpec))=true:=by kernel_rfl
theorem j1:(laidOutB Tryz.pinned.checked.prog)=true:=by kernel_rfl
theorem j2:(mapsRowed Tryz.pinned.checked.prog)=true:=by kernel_rfl
theorem j3:(Tryz.f10.params.all (Tryz.pinned.checked.prog.readableRec ·))=true∧(namedTie Tryz.pinned.checked.prog Rows.dredFindsRow.named Rows.dredFindsSpec.vars)=true∧(Rows.dredFindsRow.stops== [])=true∧(Tryz.pinned.checked.prog.stops== [])=true∧(Rows.dredFindsRow.knobs== [])=true∧(Tryz.pinned.checked.prog.stopKnobs== [])=true:=⟨by kernel_rfl,by kernel_rfl,by kernel_rfl,by kernel_rfl,by kernel_rfl,by kernel_rfl⟩
theorem j4:(Rows.dredFindsRow.inPlace==Tryz.pinned.checked.prog.inPlace 10)=true∧(Rows.dredFindsRow.unfollowed==Tryz.pinned.checked.prog.unfollowed 10)=true∧(Rows.dredFindsRow.recurses==Tryz.pinned.checked.prog.recurses 10)=true∧(Rows.dredFindsRow.named==Tryz.pinned.checked.prog.varsNamed 10)=true:=⟨by kernel_rfl,by kernel_rfl,by kernel_rfl,by kernel_rfl⟩
theorem j5:(Rows.dredFindsRow.maps==(Tryz.f10.params.toList++Rows.dredFindsSpec.plain.varTypes Tryz.pinned.checked.prog).any (Tryz.pinned.checked.prog.mapsRec ·))=true∧(Rows.dredFindsRow.ifaces==(Tryz.f10.params.toList++Rows.dredFindsSpec.plain.varTypes Tryz.pinned.checked.prog).any (Tryz.pinned.checked.prog.ifacesRec ·))=true∧(Rows.dredFindsRow.mapsOut==Tryz.pinned.checked.prog.mapsAmong Tryz.f10.resultTypes.toList)=true∧(Rows.dredFindsRow.loops==(Tryz.f10.params.toList++Rows.dredFindsSpec.plain.varTypes Tryz.pinned.checked.prog).any (Tryz.pinned.checked.prog.loopsFrom ·))=true:=⟨by kernel_rfl,by kernel_rfl,by kernel_rfl,by kernel_rfl⟩
theorem j6:(Rows.dredFindsRow.wideKeys==(Tryz.f10.params.toList++Rows.dredFindsSpec.plain.varTypes Tryz.pinned.checked.prog++Tryz.f10.resultTypes.toList).any (Tryz.pinned.checked.prog.wideKeysFrom ·))=true:=by kernel_rfl
theorem j7:(Rows.dredFindsSpec.vars.all (Tryz.pinned.checked.prog.varReadable ·))=true∧(Tryz.f10.resultTypes.all (fun t=>Tryz.pinned.checked.prog.readableRec t&&decide (t<Tryz.pinned.checked.prog.types.size)))=true∧(Rows.dredFindsRow.ifacesOut==Tryz.f10.resultTypes.toList.any (Tryz.pinned.checked.prog.ifacesRec ·))=true∧(Rows.dredFindsRow.loopsOut==Tryz.f10.resultTypes.toList.any (Tryz.pinned.checked.prog.loopsFrom ·))=true∧(Rows.dredFindsRow.plainKeys==Tryz.pinned.checked.prog.plainKeys)=true∧(Rows.dredFindsRow.shortTexts.isNone)=true∧(Tryz.pinned.checked.prog.stopsHeard)=true∧(Tryz.pinned.checked.prog.mayEnter)=true:=⟨by kernel_rfl,by kernel_rfl,by kernel_rfl,by kernel_rfl,by kernel_rfl,by kernel_rfl,by kernel_rfl,by kernel_rfl⟩
theorem j8:(Rows.dredFindsRow.lifted==Tryz.pinned.checked.prog.liftsFinal)=true∧(Tryz.pinned.checked.prog.make==some Rows.dredFindsRow.make)=true∧(Rows.dredFindsRow.kinds==(if Rows.dredFindsRow.domain.isEmpty then [] else Tryz.f10.params.toList.map fun t=>match Tryz.pinned.checked.prog.underlying t with|some (.int k)=>some k|_=>none))=true∧(Rows.dredFindsRow.pinned==Rows.dredFindsRow.pinnedBy)=true:=⟨by kernel_rfl,by kernel_rfl,by kernel_rfl,by kernel_rfl⟩
theorem j9:(Rows.dredFindsRow.veiled==(Tryz.f10.params.toList++Rows.dredFindsSpec.plain.varTypes Tryz.pinned.checked.prog++Tryz.f10.resultTypes.toList).any (Tryz.pinned.checked.prog.veiledRec ·))=true∧(Rows.dredFindsRow.veiledFits Tryz.pinned.checked.prog Tryz.f10.params.toList (Tryz.f10.params.toList++Rows.dredFindsSpec.plain.varTypes Tryz.pinned.checked.prog++Tryz.f10.resultTypes.toList))=true:=⟨by kernel_rfl,by kernel_rfl⟩
theorem closed:joinedFacts Tryz.pinned.checked.prog 10 Tryz.f10 Rows.dredFindsSpec Rows.dredFindsRow=true:=by
 unfold joinedFacts
 exact (and_of (and_of (and_of (and_of (and_of (and_of (and_of (and_of (and_of (and_of (and_of (and_of (and_of (and_of (and_of (and_of (and_of (and_of (and_of (and_of (and_of (and_of (and_of (and_of (and_of (and_of (and_of (and_of (and_of (and_of (and_of j0 j1) j2) j3.1) j3.2.1) j3.2.2.1) j3.2.2.2.1) j3.2.2.2.2.1) j3.2.2.2.2.2) j4.1) j4.2.1) j4.2.2.1) j4.2.2.2) j5.1) j5.2.1) j5.2.2.1) j5.2.2.2) j6) j7.1) j7.2.1) j7.2.2.1) j7.2.2.2.1) j7.2.2.2.2.1) j7.2.2.2.2.2.1) j7.2.2.2.2.2.2.1) j7.2.2.2.2.2.2.2) j8.1) j8.2.1) j8.2.2.1) j8.2.2.2) j9.1) j9.2)
theorem named:Tryz.pinned.checked.prog.funcNamed Rows.dredFindsRow.func=some 10:=by kernel_rfl
theorem over:Rows.dredFindsRow.holds Tryz.pinned (OpenSpec.ofChange Rows.dredFindsSpec):=
 OpenClaim.holds_of_wide 10 Tryz.f10 rfl rfl rfl rfl rfl rfl rfl ⟨rfl,rfl,rfl,rfl,rfl⟩ rfl rfl rfl rfl rfl named Tryz.func10 closed
  (of_decide_eq_true (by kernel_rfl)) (by unfold Func.isWrapper;first| (rw [if_pos (by decide+kernel)];kernel_rfl)| (rw [if_neg (by decide+kernel)];exact ⟨rfl,rfl⟩))
  (fun os started H enc _=>lifted os started H enc)
theorem proved:Rows.DredFindsSaid:=over
end Go.Proofs.YtgfjpnpbkkadpaaGreat.dredFinds
