/- The lines of a report, and reports without their last lines: ReportsLines returns true and leaves its arguments as they were. No condition but that the listed variables of the library hold what the program's text lays (tied by the card). -/
import Derived.Test.YtkknfajchefgaaaGreatDoorB51
import Derived.Test.YtkknfajchefgaaaGreatDoorZp
import Derived.Test.YtkknfajchefgaaaGreatDoorRows
import Derived.Test.YtkknfajchefgaaaGreatDoorCards
import Derived.Test.YtkknfajchefgaaaGreatDoorTie
import Derived.SevenTiedAt
import Derived.JoinedOf
import Derived.LaidLaws
import Derived.Deep.DeepHandedRow
import Derived.Deep.DeepWitnessRowRef
set_option linter.all false
set_option maxHeartbeats 8000000
namespace Go.Proofs.YtkknfajchefgaaaGreatDoor.reportsLines
open Go.ChangeShapes Go.WideShapes Go.ChangeAt Go.RowKit
theorem own:ownKnob Tryz.prog.godebug=none:=by kernel_rfl
theorem fine:Go.V.LZ Tryz.prog:=Go.V.Iq (by kernel_rfl) (by kernel_rfl) (by kernel_rfl)
theorem reads(os:Os){H:Type}(enc:TypeId×Value->H):∃places,DataW.whole enc Tryz.prog ((Go.V.Jl.oS os).forCall (fun _ _=>0) ⟨#[],#[.agg #[.int .i64 0,.int .i64 0,.int .i64 0,.int .i64 0,.int .i64 0,.int .i64 0,.int .i64 0,.slice none 0 0,.slice none 0 0,.slice none 0 0,.slice none 0 0,.slice none 0 0,.slice none 0 0,.slice none 0 0,.slice none 0 0,.slice none 0 0],.int .u16 0],[]⟩).memory Tryz.f5.params.toList Rows.reportsLinesSpec.vars false #[.agg #[.int .i64 0,.int .i64 0,.int .i64 0,.int .i64 0,.int .i64 0,.int .i64 0,.int .i64 0,.slice none 0 0,.slice none 0 0,.slice none 0 0,.slice none 0 0,.slice none 0 0,.slice none 0 0,.slice none 0 0,.slice none 0 0,.slice none 0 0],.int .u16 0].toList 8=some ([.agg [.agg [.agg [.lit (.int .i64 0),.lit (.int .i64 0),.lit (.int .i64 0),.lit (.int .i64 0),.lit (.int .i64 0),.lit (.int .i64 0),.lit (.int .i64 0)],.nil,.nil,.nil,.nil,.nil,.nil,.nil,.nil],.nil],.lit (.int .u16 0)],[],places):=
 ⟨[],by kernel_rfl⟩
set_option maxRecDepth 100000 in
theorem lifted(os:Os)(started:os.Started)(H:Type)(enc:TypeId×Value->H)(F:Stop.Interp):
 ReturnsInHanded {} Tryz.checked os 5 .any ((OpenSpec.ofChange Rows.reportsLinesSpec).preRow enc Tryz.prog Tryz.f5 Rows.reportsLinesRow.domain false Rows.reportsLinesRow.laid) (((OpenSpec.ofChange Rows.reportsLinesSpec).at F).post enc Tryz.prog Tryz.f5 false true false false):=by
 obtain⟨places,hx⟩:=reads os enc;refine returnsInHanded_of_row (C:=Tryz.checked) (s:=OpenSpec.ofChange Rows.reportsLinesSpec) own started (by kernel_rfl) Tryz.func5
  (witness_row_atRef (enc:=enc) (C:=Tryz.checked) false (Go.V.Jl.oS os) #[.agg #[.int .i64 0,.int .i64 0,.int .i64 0,.int .i64 0,.int .i64 0,.int .i64 0,.int .i64 0,.slice none 0 0,.slice none 0 0,.slice none 0 0,.slice none 0 0,.slice none 0 0,.slice none 0 0,.slice none 0 0,.slice none 0 0,.slice none 0 0],.int .u16 0] rfl (by kernel_rfl) (by kernel_rfl) (by kernel_rfl)
   (OpenSpec.preRow_of_cond 8 hx (by kernel_rfl) (fun k hk=>by cases hk) (by kernel_rfl) (Go.V.Jl.E_ os _))) ?_
 intro W base args ds gs before GV hW _ uB tD hL _ _;exact Go.V.CT (n:=10) (ss:=[Go.V.Rp.yi,.int .u16]) (tb:=4) (handsOn:=false) Go.V.Jl.Sc fine Tryz.func5 rfl (by kernel_rfl) (Go.V.Da (by kernel_rfl)) (by kernel_rfl) rfl Tryz.underlying4 rfl
  (fun ds hl=>match ds,hl with|[_,_],_=>rfl) (fun xs h _=>Go.V.Rp.Wg xs h) W (Go.V.Jl.yu hL) base args ds gs before GV hW tD (Nat.le_refl _)
noncomputable abbrev P:=Tryz.prog
noncomputable abbrev fn:=Tryz.f5
noncomputable abbrev c:=Rows.reportsLinesRow
noncomputable abbrev s:=(OpenSpec.ofChange Rows.reportsLinesSpec).bare
noncomputable abbrev f:Nat:=5
theorem z0:(c.wf (OpenSpec.ofChange s))=true:=by kernel_rfl
theorem z1:(laidOutB P)=true:=by kernel_rfl
theorem z2:(mapsRowed P)=true:=by kernel_rfl
theorem z3:(fn.params.all (P.readableRec ·))=true:=by kernel_rfl
theorem z4:(namedTie P c.named s.vars)=true:=by kernel_rfl
theorem z5:((c.stops==[]))=true:=by kernel_rfl
theorem z6:((P.stops==[]))=true:=by kernel_rfl
theorem z7:((c.knobs==[]))=true:=by kernel_rfl
theorem z8:((P.stopKnobs==[]))=true:=by kernel_rfl
theorem z9:((c.inPlace==P.inPlace f))=true:=by kernel_rfl
theorem XF:((c.unfollowed==P.unfollowed f))=true:=by kernel_rfl
theorem XG:((c.recurses==P.recurses f))=true:=by kernel_rfl
theorem z12:((c.named==P.varsNamed f))=true:=by kernel_rfl
theorem XH:((c.maps==(fn.params.toList++s.plain.varTypes P).any (P.mapsRec ·)))=true:=by kernel_rfl
theorem XI:((c.ifaces==(fn.params.toList++s.plain.varTypes P).any (P.ifacesRec ·)))=true:=by kernel_rfl
theorem XJ:((c.mapsOut==P.mapsAmong fn.resultTypes.toList))=true:=by kernel_rfl
theorem XK:((c.loops==(fn.params.toList++s.plain.varTypes P).any (P.loopsFrom ·)))=true:=by kernel_rfl
theorem XL:((c.wideKeys==(fn.params.toList++s.plain.varTypes P++fn.resultTypes.toList).any (P.wideKeysFrom ·)))=true:=by kernel_rfl
theorem XM:(s.vars.all (P.varReadable ·))=true:=by kernel_rfl
theorem XN:(fn.resultTypes.all (fun t=>P.readableRec t&&decide (t<P.types.size)))=true:=by kernel_rfl
theorem z20:((c.ifacesOut==fn.resultTypes.toList.any (P.ifacesRec ·)))=true:=by kernel_rfl
theorem z21:((c.loopsOut==fn.resultTypes.toList.any (P.loopsFrom ·)))=true:=by kernel_rfl
theorem XO:((c.plainKeys==P.plainKeys))=true:=by kernel_rfl
theorem XP:(c.shortTexts.isNone)=true:=by kernel_rfl
theorem z24:(P.stopsHeard)=true:=by kernel_rfl
theorem XQ:(P.mayEnter)=true:=by kernel_rfl
theorem XS:((c.lifted==P.liftsFinal))=true:=by kernel_rfl
theorem XT:((P.make==some c.make))=true:=by kernel_rfl
theorem z28:((c.kinds==(if c.domain.isEmpty then[]else fn.params.toList.map fun t=>match P.underlying t with|some (.int k)=>some k|_=>none)))=true:=by kernel_rfl
theorem XU:((c.pinned==c.pinnedBy))=true:=by kernel_rfl
theorem XV:((c.veiled==(fn.params.toList++s.plain.varTypes P++fn.resultTypes.toList).any (P.veiledRec ·)))=true:=by kernel_rfl
theorem z31:(c.veiledFits P fn.params.toList (fn.params.toList++s.plain.varTypes P++fn.resultTypes.toList))=true:=by kernel_rfl
theorem and_i{a b:Bool}(h:a=true)(k:b=true):(a&&b)=true:=by rw[h,k];rfl
set_option maxRecDepth 100000 in
theorem closed:joinedFacts Tryz.prog 5 Tryz.f5 (OpenSpec.ofChange Rows.reportsLinesSpec).bare Rows.reportsLinesRow=true:=(and_i (and_i (and_i (and_i (and_i (and_i (and_i (and_i (and_i (and_i (and_i (and_i (and_i (and_i (and_i (and_i (and_i (and_i (and_i (and_i (and_i (and_i (and_i (and_i (and_i (and_i (and_i (and_i (and_i (and_i (and_i z0 z1) z2) z3) z4) z5) z6) z7) z8) z9) XF) XG) z12) XH) XI) XJ) XK) XL) XM) XN) z20) z21) XO) XP) z24) XQ) XS) XT) z28) XU) XV) z31)
theorem named:Tryz.prog.funcNamed "hansard/hansardlaw59.ReportsLines"=some 5:=by kernel_rfl
theorem inst:Tryz.f5.isInstance Tryz.prog Rows.reportsLinesRow.origin Rows.reportsLinesRow.targs:=of_decide_eq_true (by kernel_rfl)
theorem wrap:Tryz.f5.isWrapper Tryz.prog Rows.reportsLinesRow.wrapper Rows.reportsLinesRow.mainSum:=by unfold Func.isWrapper;first|(rw[if_pos (by decide+kernel)];kernel_rfl)|(rw[if_neg (by decide+kernel)];exact⟨rfl,rfl⟩)
theorem over:Rows.ReportsLinesSaid:=
 OpenClaim.holds_of_cond 5 Tryz.f5 rfl rfl rfl rfl rfl rfl rfl ⟨rfl,rfl,rfl,rfl,rfl⟩ rfl rfl rfl rfl rfl named Tryz.func5 closed inst wrap
  (fun os started H enc _ F=>by rw[OpenClaim.pre_eq_preRow];exact lifted os started H enc F)
theorem noStand:(Tryz.f5.params.toList.all fun t=>Tryz.prog.wantsStandIn t==false)=true:=by kernel_rfl
theorem told:Rows.reportsLinesRow.wfByText (OpenSpec.ofChange Rows.reportsLinesSpec)=true:=by kernel_rfl
theorem harness:Tryz.pinned.checked.prog.mainIs=some (Rows.reportsLinesCard.stood.harness.1,Rows.reportsLinesCard.stood.harness.2.toList):=by kernel_rfl
theorem looksT:Rows.reportsLinesCard.stood.looks=Tryz.pinned.checked.prog.looks []:=by kernel_rfl
theorem goes:false=Rows.reportsLinesRow.goesBy Tryz.pinned.checked.prog:=by kernel_rfl
theorem proved:Rows.ReportsLinesCardSaid:=
 Claim7.holds_tied_plain_at .later [] _ _ _ _
  over (fun _ h=>by cases h) told (fun _ h=>by cases h) reportsLines_row_tie rfl ⟨rfl,rfl⟩ harness rfl
  (fun f fn hf Ka=>by
   obtain rfl:f=5:=Option.some.inj (named.symm.trans hf) |>.symm;obtain rfl:fn=Tryz.f5:=(Option.some.inj (Tryz.func5.symm.trans Ka)).symm;exact⟨looksT,fun j t ht=>by
    have h:=List.all_eq_true.1 noStand t (List.mem_of_getElem? (by rw[Array.getElem?_toList];exact ht));exact beq_iff_eq.1 h⟩)
  goes
#print axioms proved
end Go.Proofs.YtkknfajchefgaaaGreatDoor.reportsLines
