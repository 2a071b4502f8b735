/- Part 14 of the proof of TopHidden. No conditions. -/
import Derived.Test.YtomehhepbeiinaaGreatDoorZ12
import Derived.SevenTiedAt
set_option maxRecDepth 100000
set_option maxHeartbeats 100000000
set_option linter.all false
namespace Go.Proofs.YtomehhepbeiinaaGreatDoor.lawTopHidden
open Tryz
section
open Go.ChangeAt Go.ChangeShapes Go.Joins Go.RowKit Go.WideShapes
theorem AZW:ownKnob Tryz.prog.godebug=none:=kR
theorem plain:(Kw.all λx=>x.2.handleName?.isNone)=true:=kR
abbrev Xg:Array Value:=#[.agg #[.slice none 0 0,.slice none 0 0,.slice none 0 0],.int .i64 0,.int .i64 0,.slice none 0 0,.int .u8 0]
noncomputable abbrev wW(os:Os):World:=(World.laidAll Tryz.prog os Kw).forCall (λ_ _=>0) ⟨#[],Xg,[]⟩
theorem p2(os:Os):(World.holding Tryz.prog os ⟨#[],#[],[]⟩).layFits Tryz.prog Kw []=true:=kR
theorem p3(os:Os):(World.holding Tryz.prog os ⟨#[],#[],[]⟩).layIfaces Tryz.prog Kw (World.laidAll Tryz.prog os Kw)=true:=kR
theorem p5(os:Os):(wW os).variablesZipB Tryz.prog=true:=kR
theorem p6(os:Os):((wW os).heap.toList.drop Tryz.prog.globals.size).take ((begin Tryz.prog (λ_ _=>0) default).world.heap.size-Tryz.prog.globals.size)=(begin Tryz.prog (λ_ _=>0) default).world.heap.toList.drop Tryz.prog.globals.size:=kR
theorem p7(os:Os):Input.okWideB Tryz.prog (wW os) 6 ⟨#[],Xg,[]⟩=true:=kR
theorem p8(os:Os)(H:Type)(enc:TypeId×Value->H):Rows.topHiddenSpec.preB enc Tryz.prog Tryz.f6 [] false (wW os).memory Xg 8=true:=kR
theorem p9(os:Os)(H:Type)(enc:TypeId×Value->H):Rows.topHiddenSpec.sizedB enc Tryz.prog Tryz.f6 false (wW os).memory Xg 8=true:=kR
theorem p10:laidOutB Tryz.prog=true:=kR
theorem p11:Tryz.prog.readableRec 25=true:=kR
theorem p12:Tryz.prog.readableRec 23=true:=kR
theorem p13:Tryz.prog.inits.idxOf? 6=none:=kR
theorem ASm(os:Os):laidMetH Tryz.prog Kw (wW os).memory:=by
 rw[MakeChecks.laidMetH_plain _ _ _ plain]
 exact laidMet_laidAll _ (p2 os) (p3 os)
theorem lifted(os:Os)(started:os.Started)(H:Type)(enc:TypeId×Value->H):
 ReturnsInHanded {} Tryz.checked os 6 .any (λw args=>(Rows.topHiddenSpec.pre enc Tryz.prog Tryz.f6 [] false w args/\laidMetH Tryz.prog Kw w)/\sizedMet enc Tryz.prog Tryz.f6 (OpenSpec.ofChange Rows.topHiddenSpec) false w args)
  (Rows.topHiddenSpec.post enc Tryz.prog Tryz.f6 false true false false):=by
 refine returnsInHanded_of_change_and (C:=Tryz.checked) (X:=λw _=>laidMetH Tryz.prog Kw w) (λ_ _ _ hh h=>h.of_heap hh) AZW started p13 Tryz.func6
  (ChangeSpec.witness_shaped (enc:=enc) (C:=Tryz.checked) (os:=os) (X:=λw _=>laidMetH Tryz.prog Kw w) false (World.laidAll Tryz.prog os Kw) Xg 8 (World.laidAll_os _ _ _) (World.shaped_of_ZipB (p5 os) (p6 os)) (p7 os) (p8 os H enc) (p9 os H enc) (ASm os)) ?_
 intro W Cp args ds gs before c hW _ _ r _
 have a: ∀(j:Nat) t v,Tryz.f6.params[j]? =some t->args[j]? =some v->Value.okWide Tryz.prog W .any Cp t v:=c
 have m:=hW
 obtain⟨p,q,k,F,rfl,G,I⟩:=hW
 have hA:DataW.TrodAll enc Tryz.prog W 0 (λ_=>true) true Tryz.f6.params.toList args.toList ds p:=k
 rw[Tryz.params6]at hA a
 obtain⟨v0,K,P,u,J,q0,n,rfl,rfl,h0,r0⟩:=trodAll_cons hA
 obtain⟨v1,L,d1,x,p1,q1,rfl,rfl,rfl,h1,r1⟩:=trodAll_cons r0
 obtain⟨v2,M,d2,y,p2,q2,rfl,rfl,rfl,D,r2⟩:=trodAll_cons r1
 obtain⟨v3,N,d3,z,p3,q3,rfl,rfl,rfl,i,r3⟩:=trodAll_cons r2
 obtain⟨v4,O,d4,A,p4,q4,rfl,rfl,rfl,E,r4⟩:=trodAll_cons r3
 obtain⟨rfl,rfl,rfl⟩:=trodAll_nil r4
 obtain rfl:args=#[v0,v1,v2,v3,v4]:=by cases args;simp_all
 obtain⟨rfl,rfl⟩:=trodVars_none F
 have f:=(trodAll_cons_mk h0 trodAll_mk0).lt
 have g:=(trodAll_cons_mk i trodAll_mk0).lt
 rw[List.append_nil]at f g
 obtain⟨cc,s,B,d⟩:=AZL (a 0 25 v0 rfl rfl) h0
 obtain⟨a1,rfl,rfl,rfl,w1⟩:=open_int Tryz.underlying2 (a 1 2 v1 rfl rfl) h1
 obtain⟨a2,rfl,rfl,rfl,w2⟩:=open_int Tryz.underlying2 (a 2 2 v2 rfl rfl) D
 obtain⟨l,la,lc,C,cells,hl⟩:=open_list (a 3 23 v3 rfl rfl) i
 obtain⟨a4,rfl,rfl,rfl,w4⟩:=open_int Tryz.underlying5 (a 4 5 v4 rfl rfl) E
 rw[MakeChecks.laidMetH_plain _ _ _ plain]at r
 obtain⟨ps,b,_,_⟩:=r
 have hw:=Agr W (AW1 b) (AW0 b) (AWz b) (AgQ b) cc s d w1 w2 l la lc cells hl w4
 rw[<-B,<-C]at hw
 refine hw.mono λe W' ⟨he,o⟩=> ?_
 subst he
 refine⟨_,rfl,_,_,_,[],J++([]++([]++(p3++([]++[])))),[],m,trodAll_cons_mk (shut_bool Tryz.underlying4 _) trodAll_mk0,?_,rfl,o.frame _,λh=>by cases h⟩
 exact trodAll_cons_mk (Below.trod p10 p11 (by decide+kernel) h0 o f) (trodAll_cons_mk (shut_int Tryz.underlying2 w1) (trodAll_cons_mk (shut_int Tryz.underlying2 w2) (trodAll_cons_mk (Below.trod p10 p12 (by decide+kernel) i o g) (trodAll_cons_mk (shut_int Tryz.underlying5 w4) trodAll_mk0))))
end
end Go.Proofs.YtomehhepbeiinaaGreatDoor.lawTopHidden
