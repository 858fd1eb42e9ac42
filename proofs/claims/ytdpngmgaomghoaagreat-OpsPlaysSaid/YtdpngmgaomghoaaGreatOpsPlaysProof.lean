/- OpsPlays: for every input the statement's function answers true, and the input reads as it did: no condition. -/
import Derived.Test.YtdpngmgaomghoaaGreatLaw26t
import Derived.Test.YtdpngmgaomghoaaGreatOps2
import Derived.Test.YtdpngmgaomghoaaGreatRows
import Derived.OpenShut
import Derived.ShutString
namespace Go.Proofs.YtdpngmgaomghoaaGreat.opsPlays
set_option maxRecDepth 100000
open Go.ChangeShapes Go.WideShapes Go.ChangeAt Go.RowKit Go.Deep
theorem lifted (os:Os) (started:os.Started) (H:Type) (enc:TypeId × Value→H):
  ReturnsInHanded {} Tryz.checked os 4 .any (Rows.opsPlaysSpec.pre6 enc Tryz.prog Tryz.f4 Rows.opsPlaysRow.domain false) (Rows.opsPlaysSpec.post enc Tryz.prog Tryz.f4 false true false false):=by
 refine returnsInHanded_of_change (C:=Tryz.checked) own started (by kernel_rfl) Tryz.func4
  (ChangeSpec.witness6 (enc:=enc) (C:=Tryz.checked) false ⟨#[],#[.slice none 0 0,.int .i64 0],[]⟩ 8 (by kernel_rfl) (by kernel_rfl) (by kernel_rfl) (by kernel_rfl)) ?_
 intro W base args ds gs before hval0 hW hcnd _
 have hval:∀ (j:Nat) t v,Tryz.f4.params[j]? =some t→args[j]? =some v→Value.okWide Tryz.prog W .any base t v:=hval0
 have hW':=hW
 obtain ⟨p,q,hA0,hV,rfl,hfz,hnd⟩:=hW
 have hA:DataW.TrodAll enc Tryz.prog W 0 (fun _=>true) true Tryz.f4.params.toList args.toList ds p:=hA0
 rw [Tryz.params4] at hA hval
 obtain ⟨v0,vs0,d0,ds0,p0,q0,hargs0,rfl,rfl,h0,r0⟩:=trodAll_cons hA
 obtain ⟨v1,vs1,d1,ds1,p1,q1,hargs1,rfl,rfl,h1,r1⟩:=trodAll_cons r0
 subst hargs1
 obtain ⟨rfl,rfl,rfl⟩:=trodAll_nil r1
 obtain rfl:args= #[v0,v1]:=by cases args;simp_all
 obtain ⟨rfl,rfl⟩:=trodVars_none hV
 have k0:=h0
 have lt0:∀x∈p0,x.block<W.heap.size:=by obtain ⟨m,hm⟩:=k0;exact DataW.trod_lt m _ _ _ hm
 obtain ⟨a0,len0,cap0,rfl⟩:=okWide_slice Tryz.underlying44 (hval 0 44 v0 rfl rfl)
 obtain ⟨l0,hlen0,hS0,hG0⟩:∃l:List (Delta.Dl),len0=l.length∧Sl W 2 a0 l.length cap0 (l.flatMap (Delta.Dl.cs))∧∀a∈l,(Delta.RdD W) a:=by
  obtain ⟨fuel,hf⟩:=h0
  obtain ⟨A,cap,xs,hcs,hS,hG⟩:=open_sl Tryz.underlying44 (by kernel_rfl) (by omega) (Delta.Dl.cs) (Delta.RdD W) ((show ∀d:Delta.Dl,d.cs.length=2 from fun _=>rfl)) (fun n cs' y h=>open_Delta h) hf
  simp [Value.cells] at hcs
  obtain ⟨rfl,rfl,rfl⟩:=hcs
  exact ⟨xs,rfl,hS,hG⟩
 subst hlen0
 have k1:=h1
 have lt1:∀x∈p1,x.block<W.heap.size:=by obtain ⟨m,hm⟩:=k1;exact DataW.trod_lt m _ _ _ hm
 obtain ⟨n1,rfl,-,-,wf1⟩:=open_int Tryz.underlying3 (hval 1 3 v1 rfl rfl) h1
 clear hA0 hval0
 refine (Law26.plays a0 cap0 l0 n1 W ⟨hS0,hG0⟩).mono fun e W' ⟨he,bel⟩=>?_
 subst he
 exact ⟨_,rfl,_,_,_,[],_,[],hW',trodAll_mk1 (shut_bool Tryz.underlying4 _),(trodAll_cons_mk (Below.trod laidOut (by kernel_rfl) (of_decide_eq_true (by kernel_rfl)) k0 bel lt0) (trodAll_cons_mk (Below.trod laidOut (by kernel_rfl) (of_decide_eq_true (by kernel_rfl)) k1 bel lt1) trodAll_mk0)),rfl,bel.frame _,fun h=>by cases h⟩
theorem and_of {a b:Bool} (ha:a=true) (hb:b=true):(a&&b)=true:=by rw [ha,hb];rfl
theorem j0:(Rows.opsPlaysRow.wf (OpenSpec.ofChange Rows.opsPlaysSpec))=true:=by kernel_rfl
theorem j1:(laidOutB Tryz.pinned.checked.prog)=true:=by kernel_rfl
theorem j2:(mapsRowed Tryz.pinned.checked.prog)=true:=by kernel_rfl
theorem j3:(Tryz.f4.params.all (Tryz.pinned.checked.prog.readableRec ·))=true∧(namedTie Tryz.pinned.checked.prog Rows.opsPlaysRow.named Rows.opsPlaysSpec.vars)=true∧(Rows.opsPlaysRow.stops== [])=true∧(Tryz.pinned.checked.prog.stops== [])=true∧(Rows.opsPlaysRow.knobs== [])=true∧(Tryz.pinned.checked.prog.stopKnobs== [])=true:=⟨by kernel_rfl,by kernel_rfl,by kernel_rfl,by kernel_rfl,by kernel_rfl,by kernel_rfl⟩
theorem j4:(Rows.opsPlaysRow.inPlace==Tryz.pinned.checked.prog.inPlace 4)=true∧(Rows.opsPlaysRow.unfollowed==Tryz.pinned.checked.prog.unfollowed 4)=true∧(Rows.opsPlaysRow.recurses==Tryz.pinned.checked.prog.recurses 4)=true∧(Rows.opsPlaysRow.named==Tryz.pinned.checked.prog.varsNamed 4)=true:=⟨by kernel_rfl,by kernel_rfl,by kernel_rfl,by kernel_rfl⟩
theorem j5:(Rows.opsPlaysRow.maps==(Tryz.f4.params.toList++Rows.opsPlaysSpec.plain.varTypes Tryz.pinned.checked.prog).any (Tryz.pinned.checked.prog.mapsRec ·))=true∧(Rows.opsPlaysRow.ifaces==(Tryz.f4.params.toList++Rows.opsPlaysSpec.plain.varTypes Tryz.pinned.checked.prog).any (Tryz.pinned.checked.prog.ifacesRec ·))=true∧(Rows.opsPlaysRow.mapsOut==Tryz.pinned.checked.prog.mapsAmong Tryz.f4.resultTypes.toList)=true∧(Rows.opsPlaysRow.loops==(Tryz.f4.params.toList++Rows.opsPlaysSpec.plain.varTypes Tryz.pinned.checked.prog).any (Tryz.pinned.checked.prog.loopsFrom ·))=true:=⟨by kernel_rfl,by kernel_rfl,by kernel_rfl,by kernel_rfl⟩
theorem j6:(Rows.opsPlaysRow.wideKeys==(Tryz.f4.params.toList++Rows.opsPlaysSpec.plain.varTypes Tryz.pinned.checked.prog++Tryz.f4.resultTypes.toList).any (Tryz.pinned.checked.prog.wideKeysFrom ·))=true:=by kernel_rfl
theorem j7:(Rows.opsPlaysSpec.vars.all (Tryz.pinned.checked.prog.varReadable ·))=true∧(Tryz.f4.resultTypes.all (fun t=>Tryz.pinned.checked.prog.readableRec t&&decide (t<Tryz.pinned.checked.prog.types.size)))=true∧(Rows.opsPlaysRow.ifacesOut==Tryz.f4.resultTypes.toList.any (Tryz.pinned.checked.prog.ifacesRec ·))=true∧(Rows.opsPlaysRow.loopsOut==Tryz.f4.resultTypes.toList.any (Tryz.pinned.checked.prog.loopsFrom ·))=true∧(Rows.opsPlaysRow.plainKeys==Tryz.pinned.checked.prog.plainKeys)=true∧(Rows.opsPlaysRow.shortTexts.isNone)=true∧(Tryz.pinned.checked.prog.stopsHeard)=true∧(Tryz.pinned.checked.prog.mayEnter)=true:=⟨by kernel_rfl,by kernel_rfl,by kernel_rfl,by kernel_rfl,by kernel_rfl,by kernel_rfl,by kernel_rfl,by kernel_rfl⟩
theorem j8:(Rows.opsPlaysRow.lifted==Tryz.pinned.checked.prog.liftsFinal)=true∧(Tryz.pinned.checked.prog.make==some Rows.opsPlaysRow.make)=true∧(Rows.opsPlaysRow.kinds==(if Rows.opsPlaysRow.domain.isEmpty then [] else Tryz.f4.params.toList.map fun t=>match Tryz.pinned.checked.prog.underlying t with|some (.int k)=>some k|_=>none))=true∧(Rows.opsPlaysRow.pinned==Rows.opsPlaysRow.pinnedBy)=true:=⟨by kernel_rfl,by kernel_rfl,by kernel_rfl,by kernel_rfl⟩
theorem j9:(Rows.opsPlaysRow.veiled==(Tryz.f4.params.toList++Rows.opsPlaysSpec.plain.varTypes Tryz.pinned.checked.prog++Tryz.f4.resultTypes.toList).any (Tryz.pinned.checked.prog.veiledRec ·))=true∧(Rows.opsPlaysRow.veiledFits Tryz.pinned.checked.prog Tryz.f4.params.toList (Tryz.f4.params.toList++Rows.opsPlaysSpec.plain.varTypes Tryz.pinned.checked.prog++Tryz.f4.resultTypes.toList))=true:=⟨by kernel_rfl,by kernel_rfl⟩
theorem closed:joinedFacts Tryz.pinned.checked.prog 4 Tryz.f4 Rows.opsPlaysSpec Rows.opsPlaysRow=true:=by
 unfold joinedFacts
 exact (and_of (and_of (and_of (and_of (and_of (and_of (and_of (and_of (and_of (and_of (and_of (and_of (and_of (and_of (and_of (and_of (and_of (and_of (and_of (and_of (and_of (and_of (and_of (and_of (and_of (and_of (and_of (and_of (and_of (and_of (and_of j0 j1) j2) j3.1) j3.2.1) j3.2.2.1) j3.2.2.2.1) j3.2.2.2.2.1) j3.2.2.2.2.2) j4.1) j4.2.1) j4.2.2.1) j4.2.2.2) j5.1) j5.2.1) j5.2.2.1) j5.2.2.2) j6) j7.1) j7.2.1) j7.2.2.1) j7.2.2.2.1) j7.2.2.2.2.1) j7.2.2.2.2.2.1) j7.2.2.2.2.2.2.1) j7.2.2.2.2.2.2.2) j8.1) j8.2.1) j8.2.2.1) j8.2.2.2) j9.1) j9.2)
theorem named:Tryz.pinned.checked.prog.funcNamed Rows.opsPlaysRow.func=some 4:=by kernel_rfl
theorem over:Rows.opsPlaysRow.holds Tryz.pinned (OpenSpec.ofChange Rows.opsPlaysSpec):=
 OpenClaim.holds_of_wide 4 Tryz.f4 rfl rfl rfl rfl rfl rfl rfl ⟨rfl,rfl,rfl,rfl,rfl⟩ rfl rfl rfl rfl rfl named Tryz.func4 closed
  (of_decide_eq_true (by kernel_rfl)) (by unfold Func.isWrapper;first| (rw [if_pos (by decide+kernel)];kernel_rfl)| (rw [if_neg (by decide+kernel)];exact ⟨rfl,rfl⟩))
  (fun os started H enc _=>lifted os started H enc)
theorem proved:Rows.OpsPlaysSaid:=over
end Go.Proofs.YtdpngmgaomghoaaGreat.opsPlays
