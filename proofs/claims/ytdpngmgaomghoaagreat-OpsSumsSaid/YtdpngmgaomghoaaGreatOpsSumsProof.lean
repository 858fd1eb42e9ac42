/- OpsSums: for every input the statement's function answers true, and the input reads as it did: no condition. -/
import Derived.Test.YtdpngmgaomghoaaGreatLaw26s
import Derived.Test.YtdpngmgaomghoaaGreatOps2
import Derived.Test.YtdpngmgaomghoaaGreatRows
import Derived.OpenShut
import Derived.ShutString
namespace Go.Proofs.YtdpngmgaomghoaaGreat.opsSums
set_option maxRecDepth 100000
open Go.ChangeShapes Go.WideShapes Go.ChangeAt Go.RowKit Go.Deep
theorem lifted (os:Os) (started:os.Started) (H:Type) (enc:TypeId × Value→H):
  ReturnsInHanded {} Tryz.checked os 5 .any (Rows.opsSumsSpec.pre6 enc Tryz.prog Tryz.f5 Rows.opsSumsRow.domain false) (Rows.opsSumsSpec.post enc Tryz.prog Tryz.f5 false true false false):=by
 refine returnsInHanded_of_change (C:=Tryz.checked) own started (by kernel_rfl) Tryz.func5
  (ChangeSpec.witness6 (enc:=enc) (C:=Tryz.checked) false ⟨#[],#[.slice none 0 0],[]⟩ 8 (by kernel_rfl) (by kernel_rfl) (by kernel_rfl) (by kernel_rfl)) ?_
 intro W base args ds gs before hval0 hW hcnd _
 have hval:∀ (j:Nat) t v,Tryz.f5.params[j]? =some t→args[j]? =some v→Value.okWide Tryz.prog W .any base t v:=hval0
 have hW':=hW
 obtain ⟨p,q,hA0,hV,rfl,hfz,hnd⟩:=hW
 have hA:DataW.TrodAll enc Tryz.prog W 0 (fun _=>true) true Tryz.f5.params.toList args.toList ds p:=hA0
 rw [Tryz.params5] at hA hval
 obtain ⟨v0,vs0,d0,ds0,p0,q0,hargs0,rfl,rfl,h0,r0⟩:=trodAll_cons hA
 obtain ⟨rfl,rfl,rfl⟩:=trodAll_nil r0
 obtain rfl:args= #[v0]:=by cases args;simp_all
 obtain ⟨rfl,rfl⟩:=trodVars_none hV
 have k0:=h0
 have lt0:∀x∈p0,x.block<W.heap.size:=by obtain ⟨m,hm⟩:=k0;exact DataW.trod_lt m _ _ _ hm
 obtain ⟨a0,len0,cap0,rfl⟩:=okWide_slice Tryz.underlying22 (hval 0 22 v0 rfl rfl)
 obtain ⟨l0,hlen0,hS0,hG0⟩:∃l:List (Sn),len0=l.length∧Sl W 9 a0 l.length cap0 (l.flatMap (SetW.scs))∧∀a∈l,(Sn.ok) a:=by
  obtain ⟨fuel,hf⟩:=h0
  obtain ⟨A,cap,xs,hcs,hS,hG⟩:=open_sl Tryz.underlying22 (by kernel_rfl) (by omega) (SetW.scs) (Sn.ok) (SetW.scs_len) (fun n cs' y h=>open_Span h) hf
  simp [Value.cells] at hcs
  obtain ⟨rfl,rfl,rfl⟩:=hcs
  exact ⟨xs,rfl,hS,hG⟩
 subst hlen0
 clear hA0 hval0
 refine (Law26.opsSums a0 cap0 l0 W ⟨hS0,hG0⟩).mono fun e W' ⟨he,bel⟩=>?_
 subst he
 exact ⟨_,rfl,_,_,_,[],_,[],hW',trodAll_mk1 (shut_bool Tryz.underlying4 _),(trodAll_cons_mk (Below.trod laidOut (by kernel_rfl) (of_decide_eq_true (by kernel_rfl)) k0 bel lt0) trodAll_mk0),rfl,bel.frame _,fun h=>by cases h⟩
theorem and_of {a b:Bool} (ha:a=true) (hb:b=true):(a&&b)=true:=by rw [ha,hb];rfl
theorem j0:(Rows.opsSumsRow.wf (OpenSpec.ofChange Rows.opsSumsSpec))=true:=by kernel_rfl
theorem j1:(laidOutB Tryz.pinned.checked.prog)=true:=by kernel_rfl
theorem j2:(mapsRowed Tryz.pinned.checked.prog)=true:=by kernel_rfl
theorem j3:(Tryz.f5.params.all (Tryz.pinned.checked.prog.readableRec ·))=true∧(namedTie Tryz.pinned.checked.prog Rows.opsSumsRow.named Rows.opsSumsSpec.vars)=true∧(Rows.opsSumsRow.stops== [])=true∧(Tryz.pinned.checked.prog.stops== [])=true∧(Rows.opsSumsRow.knobs== [])=true∧(Tryz.pinned.checked.prog.stopKnobs== [])=true:=⟨by kernel_rfl,by kernel_rfl,by kernel_rfl,by kernel_rfl,by kernel_rfl,by kernel_rfl⟩
theorem j4:(Rows.opsSumsRow.inPlace==Tryz.pinned.checked.prog.inPlace 5)=true∧(Rows.opsSumsRow.unfollowed==Tryz.pinned.checked.prog.unfollowed 5)=true∧(Rows.opsSumsRow.recurses==Tryz.pinned.checked.prog.recurses 5)=true∧(Rows.opsSumsRow.named==Tryz.pinned.checked.prog.varsNamed 5)=true:=⟨by kernel_rfl,by kernel_rfl,by kernel_rfl,by kernel_rfl⟩
theorem j5:(Rows.opsSumsRow.maps==(Tryz.f5.params.toList++Rows.opsSumsSpec.plain.varTypes Tryz.pinned.checked.prog).any (Tryz.pinned.checked.prog.mapsRec ·))=true∧(Rows.opsSumsRow.ifaces==(Tryz.f5.params.toList++Rows.opsSumsSpec.plain.varTypes Tryz.pinned.checked.prog).any (Tryz.pinned.checked.prog.ifacesRec ·))=true∧(Rows.opsSumsRow.mapsOut==Tryz.pinned.checked.prog.mapsAmong Tryz.f5.resultTypes.toList)=true∧(Rows.opsSumsRow.loops==(Tryz.f5.params.toList++Rows.opsSumsSpec.plain.varTypes Tryz.pinned.checked.prog).any (Tryz.pinned.checked.prog.loopsFrom ·))=true:=⟨by kernel_rfl,by kernel_rfl,by kernel_rfl,by kernel_rfl⟩
theorem j6:(Rows.opsSumsRow.wideKeys==(Tryz.f5.params.toList++Rows.opsSumsSpec.plain.varTypes Tryz.pinned.checked.prog++Tryz.f5.resultTypes.toList).any (Tryz.pinned.checked.prog.wideKeysFrom ·))=true:=by kernel_rfl
theorem j7:(Rows.opsSumsSpec.vars.all (Tryz.pinned.checked.prog.varReadable ·))=true∧(Tryz.f5.resultTypes.all (fun t=>Tryz.pinned.checked.prog.readableRec t&&decide (t<Tryz.pinned.checked.prog.types.size)))=true∧(Rows.opsSumsRow.ifacesOut==Tryz.f5.resultTypes.toList.any (Tryz.pinned.checked.prog.ifacesRec ·))=true∧(Rows.opsSumsRow.loopsOut==Tryz.f5.resultTypes.toList.any (Tryz.pinned.checked.prog.loopsFrom ·))=true∧(Rows.opsSumsRow.plainKeys==Tryz.pinned.checked.prog.plainKeys)=true∧(Rows.opsSumsRow.shortTexts.isNone)=true∧(Tryz.pinned.checked.prog.stopsHeard)=true∧(Tryz.pinned.checked.prog.mayEnter)=true:=⟨by kernel_rfl,by kernel_rfl,by kernel_rfl,by kernel_rfl,by kernel_rfl,by kernel_rfl,by kernel_rfl,by kernel_rfl⟩
theorem j8:(Rows.opsSumsRow.lifted==Tryz.pinned.checked.prog.liftsFinal)=true∧(Tryz.pinned.checked.prog.make==some Rows.opsSumsRow.make)=true∧(Rows.opsSumsRow.kinds==(if Rows.opsSumsRow.domain.isEmpty then [] else Tryz.f5.params.toList.map fun t=>match Tryz.pinned.checked.prog.underlying t with|some (.int k)=>some k|_=>none))=true∧(Rows.opsSumsRow.pinned==Rows.opsSumsRow.pinnedBy)=true:=⟨by kernel_rfl,by kernel_rfl,by kernel_rfl,by kernel_rfl⟩
theorem j9:(Rows.opsSumsRow.veiled==(Tryz.f5.params.toList++Rows.opsSumsSpec.plain.varTypes Tryz.pinned.checked.prog++Tryz.f5.resultTypes.toList).any (Tryz.pinned.checked.prog.veiledRec ·))=true∧(Rows.opsSumsRow.veiledFits Tryz.pinned.checked.prog Tryz.f5.params.toList (Tryz.f5.params.toList++Rows.opsSumsSpec.plain.varTypes Tryz.pinned.checked.prog++Tryz.f5.resultTypes.toList))=true:=⟨by kernel_rfl,by kernel_rfl⟩
theorem closed:joinedFacts Tryz.pinned.checked.prog 5 Tryz.f5 Rows.opsSumsSpec Rows.opsSumsRow=true:=by
 unfold joinedFacts
 exact (and_of (and_of (and_of (and_of (and_of (and_of (and_of (and_of (and_of (and_of (and_of (and_of (and_of (and_of (and_of (and_of (and_of (and_of (and_of (and_of (and_of (and_of (and_of (and_of (and_of (and_of (and_of (and_of (and_of (and_of (and_of j0 j1) j2) j3.1) j3.2.1) j3.2.2.1) j3.2.2.2.1) j3.2.2.2.2.1) j3.2.2.2.2.2) j4.1) j4.2.1) j4.2.2.1) j4.2.2.2) j5.1) j5.2.1) j5.2.2.1) j5.2.2.2) j6) j7.1) j7.2.1) j7.2.2.1) j7.2.2.2.1) j7.2.2.2.2.1) j7.2.2.2.2.2.1) j7.2.2.2.2.2.2.1) j7.2.2.2.2.2.2.2) j8.1) j8.2.1) j8.2.2.1) j8.2.2.2) j9.1) j9.2)
theorem named:Tryz.pinned.checked.prog.funcNamed Rows.opsSumsRow.func=some 5:=by kernel_rfl
theorem over:Rows.opsSumsRow.holds Tryz.pinned (OpenSpec.ofChange Rows.opsSumsSpec):=
 OpenClaim.holds_of_wide 5 Tryz.f5 rfl rfl rfl rfl rfl rfl rfl ⟨rfl,rfl,rfl,rfl,rfl⟩ rfl rfl rfl rfl rfl named Tryz.func5 closed
  (of_decide_eq_true (by kernel_rfl)) (by unfold Func.isWrapper;first| (rw [if_pos (by decide+kernel)];kernel_rfl)| (rw [if_neg (by decide+kernel)];exact ⟨rfl,rfl⟩))
  (fun os started H enc _=>lifted os started H enc)
theorem proved:Rows.OpsSumsSaid:=over
end Go.Proofs.YtdpngmgaomghoaaGreat.opsSums
