/- Part 9 of the proof of TopLeaks. No conditions. -/
import Derived.Test.YtomehhepbeiinaaGreatDoorZ07
import Derived.SevenTiedAt
set_option maxRecDepth 100000
set_option maxHeartbeats 100000000
set_option linter.all false
namespace Go.Proofs.YtomehhepbeiinaaGreatDoor.lawTopLeaks
open Tryz
section
open Go.ChangeAt Go.ChangeShapes Go.Joins Go.RowKit Go.WideShapes
theorem AVE:ownKnob Tryz.prog.godebug=none:=kR
theorem plain:(JM.all λx=>x.2.handleName?.isNone)=true:=kR
abbrev VF:Array Value:=#[.agg #[.slice none 0 0,.slice none 0 0,.slice none 0 0],.slice none 0 0]
noncomputable abbrev wW(os:Os):World:=(World.laidAll Tryz.prog os JM).forCall (λ_ _=>0) ⟨#[],VF,[]⟩
theorem p2(os:Os):(World.holding Tryz.prog os ⟨#[],#[],[]⟩).layFits Tryz.prog JM []=true:=kR
theorem p3(os:Os):(World.holding Tryz.prog os ⟨#[],#[],[]⟩).layIfaces Tryz.prog JM (World.laidAll Tryz.prog os JM)=true:=kR
theorem p5(os:Os):(wW os).variablesZipB Tryz.prog=true:=kR
theorem p6(os:Os):((wW os).heap.toList.drop Tryz.prog.globals.size).take ((begin Tryz.prog (λ_ _=>0) default).world.heap.size-Tryz.prog.globals.size)=(begin Tryz.prog (λ_ _=>0) default).world.heap.toList.drop Tryz.prog.globals.size:=kR
theorem p7(os:Os):Input.okWideB Tryz.prog (wW os) 3 ⟨#[],VF,[]⟩=true:=kR
theorem p8(os:Os)(H:Type)(enc:TypeId×Value->H):Rows.topLeaksSpec.preB enc Tryz.prog Tryz.f3 [] false (wW os).memory VF 8=true:=kR
theorem p9(os:Os)(H:Type)(enc:TypeId×Value->H):Rows.topLeaksSpec.sizedB enc Tryz.prog Tryz.f3 false (wW os).memory VF 8=true:=kR
theorem Xp:laidOutB Tryz.prog=true:=kR
theorem p11:Tryz.prog.readableRec 25=true:=kR
theorem p12:Tryz.prog.readableRec 23=true:=kR
theorem p13:Tryz.prog.inits.idxOf? 3=none:=kR
theorem APh(os:Os):laidMetH Tryz.prog JM (wW os).memory:=by
 rw[MakeChecks.laidMetH_plain _ _ _ plain]
 exact laidMet_laidAll _ (p2 os) (p3 os)
theorem lifted(os:Os)(started:os.Started)(H:Type)(enc:TypeId×Value->H):
 ReturnsInHanded {} Tryz.checked os 3 .any (λw args=>(Rows.topLeaksSpec.pre enc Tryz.prog Tryz.f3 [] false w args/\laidMetH Tryz.prog JM w)/\sizedMet enc Tryz.prog Tryz.f3 (OpenSpec.ofChange Rows.topLeaksSpec) false w args)
  (Rows.topLeaksSpec.post enc Tryz.prog Tryz.f3 false true false false):=by
 refine returnsInHanded_of_change_and (C:=Tryz.checked) (X:=λw _=>laidMetH Tryz.prog JM w) (λ_ _ _ B h=>h.of_heap B) AVE started p13 Tryz.func3
  (ChangeSpec.witness_shaped (enc:=enc) (C:=Tryz.checked) (os:=os) (X:=λw _=>laidMetH Tryz.prog JM w) false (World.laidAll Tryz.prog os JM) VF 8 (World.laidAll_os _ _ _) (World.shaped_of_ZipB (p5 os) (p6 os)) (p7 os) (p8 os H enc) (p9 os H enc) (APh os)) ?_
 intro W base args ds gs before c hW _ _ o _
 have a: ∀(j:Nat) t v,Tryz.f3.params[j]? =some t->args[j]? =some v->Value.okWide Tryz.prog W .any base t v:=c
 have k:=hW
 obtain⟨p,q,i,z,rfl,A,C⟩:=hW
 have hA:DataW.TrodAll enc Tryz.prog W 0 (λ_=>true) true Tryz.f3.params.toList args.toList ds p:=i
 rw[Tryz.params3]at hA a
 obtain⟨v0,F,I,s,D,q0,m,rfl,rfl,h0,r0⟩:=trodAll_cons hA
 obtain⟨v1,G,d1,u,E,q1,rfl,rfl,rfl,h1,r1⟩:=trodAll_cons r0
 obtain⟨rfl,rfl,rfl⟩:=trodAll_nil r1
 obtain rfl:args=#[v0,v1]:=by cases args;simp_all
 obtain⟨rfl,rfl⟩:=trodVars_none z
 have f:=(trodAll_cons_mk h0 trodAll_mk0).lt
 have g:=(trodAll_cons_mk h1 trodAll_mk0).lt
 rw[List.append_nil]at f g
 obtain⟨cc,r,x,d⟩:=AU4 (a 0 25 v0 rfl rfl) h0
 obtain⟨l,la,lc,y,cells,hl⟩:=open_list (a 1 23 v1 rfl rfl) h1
 rw[MakeChecks.laidMetH_plain _ _ _ plain]at o
 obtain⟨ps,b,_,_⟩:=o
 have hw:=AYg W (ASw b) (ASv b) (ASu b) cc r d l la lc cells hl
 rw[<-x,<-y]at hw
 refine hw.mono λe W' ⟨he,n⟩=> ?_
 subst he
 refine⟨_,rfl,_,_,_,[],D++(E++[]),[],k,trodAll_cons_mk (shut_bool Tryz.underlying4 _) trodAll_mk0,?_,rfl,n.frame _,λh=>by cases h⟩
 exact trodAll_cons_mk (Below.trod Xp p11 (by decide+kernel) h0 n f) (trodAll_cons_mk (Below.trod Xp p12 (by decide+kernel) h1 n g) trodAll_mk0)
end
end Go.Proofs.YtomehhepbeiinaaGreatDoor.lawTopLeaks
