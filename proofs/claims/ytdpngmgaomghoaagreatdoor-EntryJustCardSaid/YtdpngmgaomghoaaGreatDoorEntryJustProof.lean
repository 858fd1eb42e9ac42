/- EntryJust: for every input the statement's function answers true, and the input reads as it did: no condition. -/
import Derived.Test.YtdpngmgaomghoaaGreatDoorLaw28s
import Derived.Test.YtdpngmgaomghoaaGreatDoorOps2
import Derived.Test.YtdpngmgaomghoaaGreatDoorTie
import Derived.Test.YtdpngmgaomghoaaGreatDoorCards
import Derived.OpenShut
import Derived.ShutString
import Derived.LaidMore
import Derived.Lay
import Derived.SevenTiedAt
namespace Go.Proofs.YtdpngmgaomghoaaGreatDoor.entryJust
set_option maxRecDepth 100000
open Go.ChangeShapes Go.WideShapes Go.ChangeAt Go.RowKit Go.Deep
theorem lifted (os:Os) (started:os.Started) (H:Type) (enc:TypeId × Value→H):
  ReturnsInHanded {} Tryz.checked os 4 .any (fun w args=>(Rows.entryJustSpec.pre enc Tryz.prog Tryz.f4 Rows.entryJustRow.domain false w args∧laidMetH Tryz.prog Rows.entryJustRow.laid w)∧sizedMet enc Tryz.prog Tryz.f4 (OpenSpec.ofChange Rows.entryJustSpec) false w args) (Rows.entryJustSpec.post enc Tryz.prog Tryz.f4 false true false false):=by
 refine returnsInHanded_of_change_and (C:=Tryz.checked) (X:=fun w _=>laidMetH Tryz.prog Rows.entryJustRow.laid w) (fun _ _ _ hh h=>h.of_heap hh) own started (by kernel_rfl) Tryz.func4
  (ChangeSpec.witness_shaped (enc:=enc) (C:=Tryz.checked) (os:=os) (X:=fun w _=>laidMetH Tryz.prog Rows.entryJustRow.laid w) false (World.laidAll Tryz.prog os Rows.entryJustRow.laid) #[.slice none 0 0] 8 (World.laidAll_os _ _ _)
   (World.shaped_of_ZipB (by kernel_rfl) (by kernel_rfl)) (by kernel_rfl) (by kernel_rfl) (by kernel_rfl)
   (by rw [MakeChecks.laidMetH_plain _ _ _ (by kernel_rfl)];exact laidMet_laidAll _ (by kernel_rfl) (by kernel_rfl))) ?_
 intro W base args ds gs before hval0 hW hcnd _ _ _
 have hval:∀ (j:Nat) t v,Tryz.f4.params[j]? =some t→args[j]? =some v→Value.okWide Tryz.prog W .any base t v:=hval0
 have hW':=hW
 obtain ⟨p,q,hA0,hV,rfl,hfz,hnd⟩:=hW
 have hA:DataW.TrodAll enc Tryz.prog W 0 (fun _=>true) true Tryz.f4.params.toList args.toList ds p:=hA0
 rw [Tryz.params4] at hA hval
 obtain ⟨v0,vs0,d0,ds0,p0,q0,hargs0,rfl,rfl,h0,r0⟩:=trodAll_cons hA
 obtain ⟨rfl,rfl,rfl⟩:=trodAll_nil r0
 obtain rfl:args= #[v0]:=by cases args;simp_all
 obtain ⟨rfl,rfl⟩:=trodVars_none hV
 have k0:=h0
 have lt0:∀x∈p0,x.block<W.heap.size:=by obtain ⟨m,hm⟩:=k0;exact DataW.trod_lt m _ _ _ hm
 obtain ⟨a0,len0,cap0,rfl⟩:=okWide_slice Tryz.underlying31 (hval 0 31 v0 rfl rfl)
 obtain ⟨l0,hlen0,hS0,hG0⟩:∃l:List (Sn),len0=l.length∧Sl W 9 a0 l.length cap0 (l.flatMap (SetW.scs))∧∀a∈l,(Sn.ok) a:=by
  obtain ⟨fuel,hf⟩:=h0
  obtain ⟨A,cap,xs,hcs,hS,hG⟩:=open_sl Tryz.underlying31 (by kernel_rfl) (by omega) (SetW.scs) (Sn.ok) (SetW.scs_len) (fun n cs' y h=>open_Span h) hf
  simp [Value.cells] at hcs
  obtain ⟨rfl,rfl,rfl⟩:=hcs
  exact ⟨xs,rfl,hS,hG⟩
 subst hlen0
 clear hA0 hval0
 refine (Law28.just a0 cap0 l0 W ⟨hS0,hG0⟩).mono fun e W' ⟨he,bel⟩=>?_
 subst he
 exact ⟨_,rfl,_,_,_,[],_,[],hW',trodAll_mk1 (shut_bool Tryz.underlying4 _),(trodAll_cons_mk (Below.trod laidOut (by kernel_rfl) (of_decide_eq_true (by kernel_rfl)) k0 bel lt0) trodAll_mk0),rfl,bel.frame _,fun h=>by cases h⟩
theorem and_of {a b:Bool} (ha:a=true) (hb:b=true):(a&&b)=true:=by rw [ha,hb];rfl
theorem j0:(Rows.entryJustRow.wf (OpenSpec.ofChange Rows.entryJustSpec))=true:=by kernel_rfl
theorem j1:(laidOutB Tryz.pinned.checked.prog)=true:=by kernel_rfl
theorem j2:(mapsRowed Tryz.pinned.checked.prog)=true:=by kernel_rfl
theorem j3:(Tryz.f4.params.all (Tryz.pinned.checked.prog.readableRec ·))=true∧(namedTie Tryz.pinned.checked.prog Rows.entryJustRow.named Rows.entryJustSpec.vars)=true∧(Rows.entryJustRow.stops== [])=true∧(Tryz.pinned.checked.prog.stops== [])=true∧(Rows.entryJustRow.knobs== [])=true∧(Tryz.pinned.checked.prog.stopKnobs== [])=true:=⟨by kernel_rfl,by kernel_rfl,by kernel_rfl,by kernel_rfl,by kernel_rfl,by kernel_rfl⟩
theorem j4:(Rows.entryJustRow.inPlace==Tryz.pinned.checked.prog.inPlace 4)=true∧(Rows.entryJustRow.unfollowed==Tryz.pinned.checked.prog.unfollowed 4)=true∧(Rows.entryJustRow.recurses==Tryz.pinned.checked.prog.recurses 4)=true∧(Rows.entryJustRow.named==Tryz.pinned.checked.prog.varsNamed 4)=true:=⟨by kernel_rfl,by kernel_rfl,by kernel_rfl,by kernel_rfl⟩
theorem j5:(Rows.entryJustRow.maps==(Tryz.f4.params.toList++Rows.entryJustSpec.plain.varTypes Tryz.pinned.checked.prog).any (Tryz.pinned.checked.prog.mapsRec ·))=true∧(Rows.entryJustRow.ifaces==(Tryz.f4.params.toList++Rows.entryJustSpec.plain.varTypes Tryz.pinned.checked.prog).any (Tryz.pinned.checked.prog.ifacesRec ·))=true∧(Rows.entryJustRow.mapsOut==Tryz.pinned.checked.prog.mapsAmong Tryz.f4.resultTypes.toList)=true∧(Rows.entryJustRow.loops==(Tryz.f4.params.toList++Rows.entryJustSpec.plain.varTypes Tryz.pinned.checked.prog).any (Tryz.pinned.checked.prog.loopsFrom ·))=true:=⟨by kernel_rfl,by kernel_rfl,by kernel_rfl,by kernel_rfl⟩
theorem j6:(Rows.entryJustRow.wideKeys==(Tryz.f4.params.toList++Rows.entryJustSpec.plain.varTypes Tryz.pinned.checked.prog++Tryz.f4.resultTypes.toList).any (Tryz.pinned.checked.prog.wideKeysFrom ·))=true:=by kernel_rfl
theorem j7:(Rows.entryJustSpec.vars.all (Tryz.pinned.checked.prog.varReadable ·))=true∧(Tryz.f4.resultTypes.all (fun t=>Tryz.pinned.checked.prog.readableRec t&&decide (t<Tryz.pinned.checked.prog.types.size)))=true∧(Rows.entryJustRow.ifacesOut==Tryz.f4.resultTypes.toList.any (Tryz.pinned.checked.prog.ifacesRec ·))=true∧(Rows.entryJustRow.loopsOut==Tryz.f4.resultTypes.toList.any (Tryz.pinned.checked.prog.loopsFrom ·))=true∧(Rows.entryJustRow.plainKeys==Tryz.pinned.checked.prog.plainKeys)=true∧(Rows.entryJustRow.shortTexts.isNone)=true∧(Tryz.pinned.checked.prog.stopsHeard)=true∧(Tryz.pinned.checked.prog.mayEnter)=true:=⟨by kernel_rfl,by kernel_rfl,by kernel_rfl,by kernel_rfl,by kernel_rfl,by kernel_rfl,by kernel_rfl,by kernel_rfl⟩
theorem j8:(Rows.entryJustRow.lifted==Tryz.pinned.checked.prog.liftsFinal)=true∧(Tryz.pinned.checked.prog.make==some Rows.entryJustRow.make)=true∧(Rows.entryJustRow.kinds==(if Rows.entryJustRow.domain.isEmpty then [] else Tryz.f4.params.toList.map fun t=>match Tryz.pinned.checked.prog.underlying t with|some (.int k)=>some k|_=>none))=true∧(Rows.entryJustRow.pinned==Rows.entryJustRow.pinnedBy)=true:=⟨by kernel_rfl,by kernel_rfl,by kernel_rfl,by kernel_rfl⟩
theorem j9:(Rows.entryJustRow.veiled==(Tryz.f4.params.toList++Rows.entryJustSpec.plain.varTypes Tryz.pinned.checked.prog++Tryz.f4.resultTypes.toList).any (Tryz.pinned.checked.prog.veiledRec ·))=true∧(Rows.entryJustRow.veiledFits Tryz.pinned.checked.prog Tryz.f4.params.toList (Tryz.f4.params.toList++Rows.entryJustSpec.plain.varTypes Tryz.pinned.checked.prog++Tryz.f4.resultTypes.toList))=true:=⟨by kernel_rfl,by kernel_rfl⟩
theorem closed:joinedFacts Tryz.pinned.checked.prog 4 Tryz.f4 Rows.entryJustSpec Rows.entryJustRow=true:=by
 unfold joinedFacts
 exact (and_of (and_of (and_of (and_of (and_of (and_of (and_of (and_of (and_of (and_of (and_of (and_of (and_of (and_of (and_of (and_of (and_of (and_of (and_of (and_of (and_of (and_of (and_of (and_of (and_of (and_of (and_of (and_of (and_of (and_of (and_of j0 j1) j2) j3.1) j3.2.1) j3.2.2.1) j3.2.2.2.1) j3.2.2.2.2.1) j3.2.2.2.2.2) j4.1) j4.2.1) j4.2.2.1) j4.2.2.2) j5.1) j5.2.1) j5.2.2.1) j5.2.2.2) j6) j7.1) j7.2.1) j7.2.2.1) j7.2.2.2.1) j7.2.2.2.2.1) j7.2.2.2.2.2.1) j7.2.2.2.2.2.2.1) j7.2.2.2.2.2.2.2) j8.1) j8.2.1) j8.2.2.1) j8.2.2.2) j9.1) j9.2)
theorem named:Tryz.pinned.checked.prog.funcNamed Rows.entryJustRow.func=some 4:=by kernel_rfl
theorem over:Rows.entryJustRow.holds Tryz.pinned (OpenSpec.ofChange Rows.entryJustSpec):=
 OpenClaim.holds_of_wide 4 Tryz.f4 rfl rfl rfl rfl rfl rfl rfl ⟨rfl,rfl,rfl,rfl,rfl⟩ rfl rfl rfl rfl rfl named Tryz.func4 closed
  (of_decide_eq_true (by kernel_rfl)) (by unfold Func.isWrapper;first| (rw [if_pos (by decide+kernel)];kernel_rfl)| (rw [if_neg (by decide+kernel)];exact ⟨rfl,rfl⟩))
  (fun os started H enc _=>lifted os started H enc)
theorem proved:Rows.EntryJustCardSaid:=
 Claim7.holds_tied_plain_at .later [] [.data,.pinned] true (true, "f688daae7cf675870532a074e4557b7a95d66fc59ca62a12f109d8c957b30e25") false over (fun _ h=>by cases h) (by kernel_rfl) (fun _ h=>by cases h) entryJust_row_tie rfl ⟨rfl,rfl⟩ (by kernel_rfl) rfl
  (fun f fn hf hfn=>by
   obtain rfl:f=4:=Option.some.inj ((show Tryz.prog.funcNamed Rows.entryJustRow.func =some 4 by kernel_rfl).symm.trans hf) |>.symm
   obtain rfl:fn=Tryz.f4:=(Option.some.inj (Tryz.func4.symm.trans hfn)).symm
   exact ⟨by kernel_rfl,fun j t ht=>by
    rw [Tryz.params4] at ht
    have hm:t∈ [31]:=by simpa using Array.mem_of_getElem? ht
    have hall:([31].all fun u=> !Tryz.prog.wantsStandIn u)=true:=by kernel_rfl
    exact (show Tryz.prog.wantsStandIn t=false by simpa using List.all_eq_true.1 hall t hm)⟩)
  (by kernel_rfl)
end Go.Proofs.YtdpngmgaomghoaaGreatDoor.entryJust
