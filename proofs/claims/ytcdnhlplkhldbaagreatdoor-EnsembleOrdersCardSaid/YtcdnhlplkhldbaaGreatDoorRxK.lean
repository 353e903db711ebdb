/- Lemmas of the proof. -/
import Derived.Ground.NamesProg
import Derived.Shelf.Strings.SlTrimAscii
import Derived.Test.YtcdnhlplkhldbaaGreatDoorGeD
import Derived.RecoverIn
open Array renaming size_push->iU
open Go.Result renaming andThen_ok->eJ
open Go.Sem renaming run_bind->eK,run_pure->eL
open List renaming mapM_cons->kC,mapM_nil->oW
set_option linter.all false
namespace Go.Proofs
open Shelf
def Tryz.lays160_ren:Go.Shelf.Ren:=⟨fun|160=>178|232=>240|231=>239|227=>241|234=>243|233=>242|236=>245|235=>244|228=>288|271=>291|151=>290|197=>289|120=>327|152=>326|260=>325|137=>339|119=>340|224=>341|225=>342|217=>350|266=>354|n=>n,fun|9=>9|4=>4|3=>3|5=>5|117=>355|116=>354|0=>0|124=>358|21=>21|105=>407|46=>207|119=>448|139=>451|138=>450|n=>n,fun|3=>4|4=>5|n=>n⟩
def Tryz.lays160:Go.Proofs.Lays.n160 prog Tryz.lays160_ren:={
 mixed:=aB
 f119:=Tryz.func340.trans (congrArg some aB)
 f120:=Tryz.func327.trans (congrArg some aB)
 f137:=Tryz.func339.trans (congrArg some aB)
 f151:=Tryz.func290.trans (congrArg some aB)
 f152:=Tryz.func326.trans (congrArg some aB)
 f160:=Tryz.func178.trans (congrArg some aB)
 f197:=Tryz.func289.trans (congrArg some aB)
 f217:=Tryz.func350.trans (congrArg some aB)
 f224:=Tryz.func341.trans (congrArg some aB)
 f225:=Tryz.func342.trans (congrArg some aB)
 f227:=Tryz.func241.trans (congrArg some aB)
 f228:=Tryz.func288.trans (congrArg some aB)
 f231:=Tryz.func239.trans (congrArg some aB)
 f232:=Tryz.func240.trans (congrArg some aB)
 f233:=Tryz.func242.trans (congrArg some aB)
 f234:=Tryz.func243.trans (congrArg some aB)
 f235:=Tryz.func244.trans (congrArg some aB)
 f236:=Tryz.func245.trans (congrArg some aB)
 f260:=Tryz.func325.trans (congrArg some aB)
 f266:=Tryz.func354.trans (congrArg some aB)
 f271:=Tryz.func291.trans (congrArg some aB)
 t0:=Tryz.underlying0
 a0:=Tryz.isAgg0
 z0:=Tryz.sizeOf0
 v0:=Tryz.zeroValue0
 t3:=Tryz.underlying3
 a3:=Tryz.isAgg3
 z3:=Tryz.sizeOf3
 v3:=Tryz.zeroValue3
 t4:=Tryz.underlying4
 a4:=Tryz.isAgg4
 z4:=Tryz.sizeOf4
 v4:=Tryz.zeroValue4
 t5:=Tryz.underlying5
 a5:=Tryz.isAgg5
 z5:=Tryz.sizeOf5
 v5:=Tryz.zeroValue5
 t9:=Tryz.underlying9
 a9:=Tryz.isAgg9
 z9:=Tryz.sizeOf9
 v9:=Tryz.zeroValue9
 t21:=Tryz.underlying21
 a21:=Tryz.isAgg21
 z21:=Tryz.sizeOf21
 v21:=Tryz.zeroValue21
 t46:=Tryz.underlying207
 a46:=Tryz.isAgg207
 z46:=Tryz.sizeOf207
 v46:=Tryz.zeroValue207
 t105:=Tryz.underlying407
 a105:=Tryz.isAgg407
 z105:=Tryz.sizeOf407
 v105:=Tryz.zeroValue407
 t116:=Tryz.underlying354
 a116:=Tryz.isAgg354
 z116:=Tryz.sizeOf354
 t117:=Tryz.underlying355
 a117:=Tryz.isAgg355
 z117:=Tryz.sizeOf355
 v117:=Tryz.zeroValue355
 t119:=Tryz.underlying448
 a119:=Tryz.isAgg448
 z119:=Tryz.sizeOf448
 t124:=Tryz.underlying358
 a124:=Tryz.isAgg358
 z124:=Tryz.sizeOf358
 v124:=Tryz.zeroValue358
 t138:=Tryz.underlying450
 a138:=Tryz.isAgg450
 z138:=Tryz.sizeOf450
 v138:=Tryz.zeroValue450
 t139:=Tryz.underlying451
 a139:=Tryz.isAgg451
 z139:=Tryz.sizeOf451
 v139:=Tryz.zeroValue451
 g3:=aB
 g4:=by kernel_rfl}
end Go.Proofs
namespace Go.GS
structure Un where
 name:List UInt8
 ppl:Int
 grp:List Int
 vot:List Int
 par:List Int
 wat:Bool
structure Dm where
 g:Nat
 p:Nat
 l:Nat
def Wy:List UInt8:=[65,66,67,68,69,70,71,72,73,74,75,76,77,78,79,80,81,82,83,84,85,86,87,88,89,90,97,98,99,100,101,102,103,104,105,106,107,108,109,110,111,112,113,114,115,116,117,118,119,120,121,122,48,49,50,51,52,53,54,55,56,57,45,95]
structure UnV (dm:Dm) (x:Un):Prop where
 n0:x.name≠[]
 n12:x.name.length<=12
 trm:Go.Lib.trimS x.name Wy=[]
 p0:0<=x.ppl
 p1:x.ppl<=if x.wat then 0 else 1000000000
 gl:x.grp.length=dm.g
 gz:∀z∈x.grp,0<=z/\z<=x.ppl
 vl:x.vot.length=dm.p
 vz:∀z∈x.vot,0<=z/\z<=if x.wat then 0 else 1000000000
 pl:x.par.length=dm.l
 pz:∀z∈x.par,0<=z/\z<=if x.wat then 0 else 63
structure RoV (dm:Dm) (n:Nat) (us:List Un):Prop where
 dg:dm.g<=6
 dp:dm.p<=12
 dl:dm.l<=3
 n1:1<=n
 le:n<=us.length
 l64:us.length<=64
 un:∀x∈us,UnV dm x
 wat:∀(i:Nat) x,us[i]? =some x->x.wat=decide (n<=i)
 nd:(us.map (·.name)).Nodup
end Go.GS
namespace Go.Z
open Proofs.Tryz RowKit RX GS
set_option maxRecDepth 100000
structure UC where
 name:List UInt8
 ppl:Int
 grp:Slc
 vot:Slc
 par:Slc
 wat:Bool
def ceU (u:UC):List Value:=[st u.name,ii u.ppl,vs u.grp,vs u.vot,vs u.par,.bool u.wat]
def veU (u:UC):Value:= .agg (ceU u).toArray
def Gn (u:UC):(veU u).cells.size=6/\j0 (veU u).cells:=⟨rfl,fun c hc=>by
 simp[veU,ceU,Value.cells]at hc;rcases hc with rfl|rfl|rfl|rfl|rfl|rfl<;>rfl⟩
def Cb:El prog 34 90 6 true ceU veU where
 und:=aB
 has:=aB
 cel:=aB
 agg:=aB
 pos:=aC
 one1:=fun h=>by cases h
 small:=aC
 inf:=⟨(prog.info? 90).getD default,veU ⟨[],0,(none,0,0),(none,0,0),(none,0,0),false⟩,aB,aB,aB,rfl,oDt aB⟩
 len:=fun p=>rfl
 val:=fun p=>rfl
 cells:=fun p=>rfl
 one:=fun p c hc=>(Gn p).2 c (by simpa[veU,Value.cells]using hc)
structure UnR (H:PH) (u:UC) (x:Un):Prop where
 name:u.name=x.name
 ppl:u.ppl=x.ppl
 wat:u.wat=x.wat
 grp:SI H (vs u.grp) x.grp
 vot:SI H (vs u.vot) x.vot
 par:SI H (vs u.par) x.par
def UnR.mono {H H':PH} {u:UC} {x:Un} (h:UnR H u x) (hl:Pl H H'):UnR H' u x:=⟨h.name,h.ppl,h.wat,h.grp.mono hl,h.vot.mono hl,h.par.mono hl⟩
def RoR (H:PH) (w:Value) (us:List Un):Prop:=∃l:List UC,SE H 6 ceU w l/\l.length=us.length/\∀(i:Nat) u x,l[i]? =some u->us[i]? =some x->UnR H u x
def RoR.mono {H H':PH} {w:Value} {us:List Un} (h:RoR H w us) (hl:Pl H H'):RoR H' w us:=by
 obtain⟨l,h1,h2,h3⟩:=h;exact⟨l,h1.mono hl,h2,fun i u x a b=>(h3 i u x a b).mono hl⟩
def rov (dm:Dm) (w:Value):Value:= .agg #[ii (dm.g:Nat),ii (dm.p:Nat),ii (dm.l:Nat),w]
def Gp {dm:Dm} {w:Value} (h:y6 w=true):(rov dm w).cells.size=4/\j0 (rov dm w).cells:=⟨rfl,fun c hc=>by
 simp[rov,Value.cells]at hc;rcases hc with rfl|rfl|rfl|rfl
 ·rfl
 ·rfl
 ·rfl
 ·exact h⟩
section
variable {dm:Dm} {H:PH} {u v w:Value} {n:Nat} {us:List Un}
def RoR.one (h:RoR H w us):y6 w=true:=by
 obtain⟨l,h1,_⟩:=h;exact t8 h1
def c9N (l:List UInt8) (h0:l≠[]) (hl:l.length<=100):j4 prog 178 [st l,st Wy] H (st (Go.Lib.trimS l Wy)):=fun w hw=>by
 have hp:0<l.length:=eD.2 h0;have hi:(prog.info? (Go.Proofs.Tryz.lays160_ren.t 116)).map (fun i=>(i.zero,i.size))=some (some (.agg (Array.replicate 256 (.bool false))),256):=aB;have h:=Go.Proofs.Any.strings_Trim_set Go.Proofs.Tryz.lays160 (Go.zero_of_info hi).1 (Go.zero_of_info hi).2 (ba l) (ba Wy) w (by rw[Oh];decide) (by rw[Oh];exact hp) (by rw[Oh];omega) (by rw[Oh];decide) (Go.Proofs.ascii_of_all aC);exact h.mono fun e w' ⟨he,q,hb⟩=>⟨_,H,he,Step.of_ext hw (by
  subst hb;exact((Ext.alloc w _).trans (Ext.alloc _ _)).trans ⟨rfl,rfl,rfl,aS _,fun _ _=>rfl,Nat.le_add_right _ _⟩),Pl.refl _,rfl⟩
def e0F (l:List Bool):(!l.contains false)=l.all id:=by
 induction l with
 |nil=>rfl
 |cons a l ih=>rw[List.contains_cons,List.all_cons,<-ih];cases a<;>simp
def c9O {l:List Bool} (hu:SE H 1 (fun b:Bool=>[.bool b]) u l) (hl:l.length<1000000) (y:Bool):Con prog 238 [u,.bool y] H fun r H'=>H'=H/\∃z:Int,r=ii z/\decide (z≥0)=l.contains y:=by
 refine g5 mixed d5A ?_;refine m9 Is hu ?_;refine Df (α:=Nat×Int) (fun⟨i,p⟩=>[ii p,ii (i:Nat)]) (fun⟨i,p⟩=>i<=l.length/\(l.take i).contains y=false) (fun⟨i,p⟩=>l.length-i) ((0,0)) rfl (⟨bK _,rfl⟩) fun⟨i,p⟩ hQ=> ?_;obtain⟨hi,hq⟩:=hQ;refine b9 (b9 ?_);refine g6 (b:=decide (((i:Nat):Int)<(l.length:Nat))) rfl (fun h=> ?_) (fun h=> ?_)
 ·replace h:=oDt h;have qG:i<l.length:=aA;obtain⟨x,hx,wW⟩:=q8 qG;refine n9 Is hu hx fun _=> ?_;refine b9 (b9 ?_);refine g6 (b:=(false !=(y==x))) rfl (fun hyx=> ?_) (fun hyx=> ?_)
  ·skip
   exact d4 rfl ⟨rfl,_,rfl,by rw[List.contains_iff_mem.2 (by have:=aK hx;simp at hyx;rw[hyx];exact this)];exact oDd aA⟩
  ·skip
   exact⟨(i+1,p),by show l.length-(i+1)<l.length-i;omega,(i0 rfl (j5 rfl aA)),⟨⟨qG,by rw[take_snoc hx,List.contains_append,hq];simp at hyx;simp[hyx]⟩,rfl⟩⟩
 ·replace h:=oDf h;rw[aI aA]at hq;exact d4 rfl ⟨rfl,_,rfl,by rw[hq];rfl⟩
def aw {l:List Bool} (hu:SE H 1 (fun b:Bool=>[.bool b]) u l) (hl:l.length<1000000):Asks prog 128 [u] H (.bool (l.all id)):=by
 refine g5 mixed d5v ?_;have a5k:Asks prog 177 [u,.bool false] H (.bool (l.contains false)):=by
  refine g5 mixed d5z ?_;refine f0 (c9O hu hl false) rfl ?_;rintro _ _ ⟨rfl,z,rfl,hz⟩;refine nmI ?_;refine b9 ?_;exact d4 rfl ⟨rfl,hz ▸ rfl⟩
 refine j9 (a5k) rfl ?_;refine b9 ?_;exact d4 rfl ⟨rfl,by rw[<-e0F];rfl⟩
def c3J:n8 prog 246=true:=aB
def c3K {b:Nat} {T:TypeId} {mx:Int} (hb:H b=some (.cells #[ii mx] T (0,0))) (x:Int):Asks prog 246 [ii x,.pointer (some ⟨b,0,none⟩)] H (.bool (decide (x<0)||decide (x>mx))):=by
 refine g5 mixed c9q ?_;refine b9 ?_;refine g6 (b:=decide (x<0)) rfl (fun h=> ?_) (fun h=> ?_)
 ·replace h:=oDt h;exact d4 rfl ⟨rfl,by rw[oDd h];rfl⟩
 ·replace h:=oDf h;refine g9 sc_int rfl rfl hb rfl rfl ?_;refine b9 ?_;exact d4 rfl ⟨rfl,by rw[decide_eq_false h];rfl⟩
def BW {l:List Int} {k:Nat} {mx:Int} (hu:SI H u l) (hl:l.length=k) (hz:∀z∈l,0<=z/\z<=mx):j4 prog 179 [u,ii (k:Nat),ii mx] H (.bool true):=by
 refine g5 mixed d5w ?_;refine b4 (el_int.vcells mx) ?_;refine o0 (cs:= #[ii mx]) rfl fun b hb=> ?_;refine m9 el_int (hu.mono (PH.le_put hb _)) ?_;refine b9 (b9 ?_);refine Aq (bT (p:=((l.length:Nat):Int)=((k:Nat):Int)) aA) ?_;refine y8 (Ai (vs:=[.pointer (some ⟨b,0,none⟩)]) rfl rfl) rfl ?_;have qZ:=PH.put_self H b (.cells #[ii mx] 3 (0,0));refine i8 (zw (caps:=[.pointer (some ⟨b,0,none⟩)]) (q:=fun x=>decide (x<0)||decide (x>mx)) (hu.mono (PH.le_put hb _)) c3J (fun H' x pY _=>(c3K (pY _ _ qZ) x).give)) rfl fun H2 l2=> ?_;have a1m:(l.any fun x=>decide (x<0)||decide (x>mx))=false:=by
  rw[List.any_eq_false];intro x hx;have:=hz x hx;simp;omega
 rw[a1m];refine b9 ?_;exact d4 rfl ⟨(PH.le_put hb _).trans l2,rfl⟩
def ax:prog.underlying 9=some .string:=aB
def d6a:prog.eqGuardType prog.depth 9=false:=aB
def RF:prog.underlying 232=some (.map 9 4):=aB
def c9P:∀w,(zeroValue 4).run prog w= .ok (.bool false) w:=fun w=>by rfl
def c3M {u:UC} {x:Un} (hw:y6 w=true) (hu:UnR H u x) (hx:UnV dm x):j4 prog 129 [rov dm w,veU u] H (.bool true):=by
 refine g5 mixed d5x ?_;have hn:=hu.name;have hp:=hu.ppl;have rG:=hu.wat;have xF:u.name≠[]:=hn ▸ hx.n0;have a6n:u.name.length<=12:=hn ▸ hx.n12;refine b4 (Gp hw) ?_;refine b4 (Gn u) ?_;refine⟨(fun l H'=>l=[ii (if x.wat then 0 else 1000000000),ii (if x.wat then 0 else 63)]/\H'=H),?_,?_⟩
 ·skip
  refine b9 ?_;refine g6 (b:=u.wat) rfl (fun hb=> ?_) (fun hb=> ?_)
  ·skip
   exact⟨by rw[<-rG,hb];rfl,rfl⟩
  ·skip
   exact⟨by rw[<-rG,hb];rfl,rfl⟩
 rintro vals H' _ ⟨rfl,rfl⟩;simp only[cA,nA];refine j8 ((F8 (l:=u.name) (m:=[]) (vs:=[st u.name,st []]) rfl rfl rfl).rds _) rfl ?_;refine j8 ((E9 (l:=u.name) (vs:=[st u.name]) rfl rfl ax).rds _) rfl ?_;refine b9 (b9 (b9 ?_));refine i8 (c9N u.name xF aA) rfl fun H1 l1=> ?_;rw[show Go.Lib.trimS u.name Wy=[]from hn ▸ hx.trm];refine j8 ((F0 (l:=[]) (m:=[]) (vs:=[st [],st []]) rfl rfl rfl ax d6a).rds _) rfl ?_;refine i8 (BW (hu.grp.mono l1) hx.gl (mx:=u.ppl) (fun z hz=>by rw[hp];exact hx.gz z hz)) rfl fun H2 l2=> ?_;refine i8 (BW (hu.vot.mono (l1.trans l2)) hx.vl hx.vz) rfl fun H3 l3=> ?_;refine i8 (BW (hu.par.mono ((l1.trans l2).trans l3)) hx.pl hx.pz) rfl fun H4 l4=> ?_;refine Gj Is (N:=8) (l:=[!(u.name==[]),decide (((u.name.length:Nat):Int)<=12),([]:List UInt8)==[],decide (u.ppl≥0),decide (u.ppl<=if x.wat then 0 else 1000000000),true,true,true]) (vs:=[.bool (!(u.name==[])),.bool (decide (((u.name.length:Nat):Int)<=12)),.bool (([]:List UInt8)==[]),.bool (decide (u.ppl≥0)),.bool (decide (u.ppl<=if x.wat then 0 else 1000000000)),.bool true,.bool true,.bool true]) rfl aC aC rfl rfl rfl fun v11 H5 l5 o5 _=> ?_;refine i8 ((aw o5.se aD).give) rfl fun H6 l6=> ?_;have e1:(!(u.name==[]))=true:=by cases h:u.name with|nil=>exact absurd h xF|cons a l=>rfl
 have e2:decide (((u.name.length:Nat):Int)<=12)=true:=oDd aA;have e3:decide (u.ppl≥0)=true:=oDd (by rw[hp];exact hx.p0);have e4:decide (u.ppl<=if x.wat then 0 else 1000000000)=true:=oDd (by rw[hp];exact hx.p1);exact d4 rfl ⟨((((l1.trans l2).trans l3).trans l4).trans l5).trans l6,by show Value.bool (List.all _ id)=_;rw[e1,e2,e3,e4];rfl⟩
def ay (hr:RoR H w us) (hv:RoV dm n us):j4 prog 80 [rov dm w] H (ii 0):=by
 refine g5 mixed d5y ?_;obtain⟨ul,hw,qC,rT⟩:=id hr;have hn1:=hv.n1;have pY:=hv.le;have sM:=hv.l64;refine b4 (Gp hr.one) ?_;refine m9 Cb hw ?_;simp only[cA,nA];refine b9 (b9 (b9 (b9 ?_)));refine Gj Is (N:=8) (l:=[decide (((dm.g:Nat):Int)≥0),decide (((dm.g:Nat):Int)<=6),decide (((dm.p:Nat):Int)≥0),decide (((dm.p:Nat):Int)<=12),decide (((dm.l:Nat):Int)≥0),decide (((dm.l:Nat):Int)<=3),decide (((ul.length:Nat):Int)>0),decide (((ul.length:Nat):Int)<=64)]) (vs:=[.bool (decide (((dm.g:Nat):Int)≥0)),.bool (decide (((dm.g:Nat):Int)<=6)),.bool (decide (((dm.p:Nat):Int)≥0)),.bool (decide (((dm.p:Nat):Int)<=12)),.bool (decide (((dm.l:Nat):Int)≥0)),.bool (decide (((dm.l:Nat):Int)<=3)),.bool (decide (((ul.length:Nat):Int)>0)),.bool (decide (((ul.length:Nat):Int)<=64))]) rfl aC aC rfl rfl rfl fun v2 H1 l1 o1 _=> ?_;simp only[cA,nA];refine i8 ((aw o1.se aD).give) rfl fun H2 l2=> ?_;simp only[cA,nA];have wO:=hv.dg;have qH:=hv.dp;have hd3:=hv.dl;rw[oDd (show((dm.g:Nat):Int)≥0 by omega),oDd (show((dm.g:Nat):Int)<=6 by omega),oDd (show((dm.p:Nat):Int)≥0 by omega),oDd (show((dm.p:Nat):Int)<=12 by omega),oDd (show((dm.l:Nat):Int)≥0 by omega),oDd (show((dm.l:Nat):Int)<=3 by omega),oDd (show((ul.length:Nat):Int)>0 by omega),oDd (show((ul.length:Nat):Int)<=64 by omega)];refine b9 ?_;refine i7 rfl ?_;refine j1 (Na (ok:=fun l:List UInt8=>l.length<=maxLen) (ke:=st) BH rfl) rfl ?_;rintro v4 H3 ⟨l3,o3⟩;refine nmI ?_;simp only[cA,nA];have l03:=(l1.trans l2).trans l3;refine m9 Cb (hw.mono l03) ?_;simp only[cA,nA];refine r7 (α:=Nat×List (List UInt8×Value)) (fun⟨i,L⟩=>[ii 0,.bool (decide (n<i)),ii (i:Nat)]) (fun⟨i,L⟩=>fun H'=>i<=us.length/\Pl H2 H'/\MKO (fun l:List UInt8=>l.length<=maxLen) st H2 H' v4 L/\L.map (·.1)=(us.take i).map (·.name)) (fun⟨i,L⟩=>us.length-i) ((0,[])) rfl (⟨bK _,l3,o3,rfl⟩) fun⟨i,L⟩ H' hQ=> ?_;simp only[cA,nA];obtain⟨hi,l4,o4,hL⟩:=hQ;refine b9 (b9 ?_);refine g6 (b:=decide (((i:Nat):Int)<(ul.length:Nat))) rfl (fun hil=> ?_) (fun hil=> ?_)
 ·replace hil:=oDt hil;have qG:i<us.length:=aA;obtain⟨x,hx,wW⟩:=q8 qG;have xC:i<ul.length:=aA;obtain⟨u,hu,_⟩:=q8 xC;have l04:=(l1.trans l2).trans l4;have yK:=(rT i u x hu hx).mono l04;have hxm:=aK hx;have hUV:=hv.un x hxm;have rG:u.wat=decide (n<=i):=yK.wat.trans (hv.wat i x hx);refine n9 Cb (hw.mono l04) hu fun _=> ?_;simp only[cA,nA];refine b4 (Gn u) ?_;have vA:u.name∉L.map (·.1):=by
   rw[hL,yK.name];intro hm;obtain⟨y,hy,hye⟩:=aZ.1 hm;obtain⟨j,hj⟩:=dB hy;have hji:j<i:=by
    have:=(aH.1 hj).1;rw[bH]at this;omega
   rw[dD hji]at hj;have h1:(us.map (·.name))[j]? =some x.name:=by rw[aX,hj,<-hye];rfl
   have h2:(us.map (·.name))[i]? =some x.name:=by rw[aX,hx];rfl
   have:=(List.getElem?_inj (by simpa using(show j<us.length by omega)) hv.nd).1 (h1.trans h2.symm);omega
  have hnl:u.name.length<=maxLen:=by rw[yK.name];exact cK hUV.n12 aC
  refine⟨(fun l Hx=>l=[.bool false]/\Pl H' Hx),?_,?_⟩
  ·skip
   refine j8 (ao BH (vs:=[v4,st u.name]) (ok2:=false) (k:=u.name) (u:= .bool false) (b:=false) rfl rfl rfl RF hnl c9P o4.mk (.inl ⟨rfl,rfl,vA⟩)) rfl ?_;simp only[cA,nA];refine b9 ?_;refine i8 (c3M hr.one yK hUV) rfl fun H6 l6=> ?_;simp only[cA,nA];refine b9 ?_;refine g6 (b:=u.wat) rfl (fun hb=> ?_) (fun hb=> ?_)
   ·skip
    have wZ:n<=i:=by rw[rG]at hb;exact oDt hb
    refine Aq (bT (p:=((i:Nat):Int)>0) aA) ?_;refine Gj Is (N:=4) (l:=[true,true,true,true]) (vs:=[.bool true,.bool true,.bool true,.bool true]) rfl aC aC rfl rfl rfl fun v13 H7 l7 o7 _=> ?_;simp only[cA,nA];refine i8 ((aw o7.se aD).give) rfl fun H8 l8=> ?_;simp only[cA,nA];refine b9 ?_;exact⟨rfl,(l6.trans l7).trans l8⟩
   ·skip
    have wZ:¬n<=i:=by rw[rG]at hb;exact oDf hb
    refine b9 ?_;refine g6 (b:=decide (((i:Nat):Int)>0)) rfl (fun uX=> ?_) (fun uX=> ?_)
    ·replace uX:=oDt uX;refine Gj Is (N:=4) (l:=[true,true,!decide (n<i),true]) (vs:=[.bool true,.bool true,.bool (!decide (n<i)),.bool true]) rfl aC aC rfl rfl rfl fun v13 H7 l7 o7 _=> ?_;simp only[cA,nA];refine i8 ((aw o7.se aD).give) rfl fun H8 l8=> ?_;simp only[cA,nA];refine b9 ?_;exact⟨by rw[decide_eq_false (show ¬n<i by omega)];rfl,(l6.trans l7).trans l8⟩
    ·replace uX:=oDf uX;refine Gj Is (N:=4) (l:=[true,true,!decide (n<i),!u.wat]) (vs:=[.bool true,.bool true,.bool (!decide (n<i)),.bool (!u.wat)]) rfl aC aC rfl rfl rfl fun v13 H7 l7 o7 _=> ?_;simp only[cA,nA];refine i8 ((aw o7.se aD).give) rfl fun H8 l8=> ?_;simp only[cA,nA];refine b9 ?_;exact⟨by rw[decide_eq_false (show ¬n<i by omega),hb];rfl,(l6.trans l7).trans l8⟩
  rintro vals H5 _ ⟨rfl,l5⟩;simp only[cA,nA];refine b9 ?_;refine i7 rfl ?_;refine j1 (Pq BH (k:=u.name) (vs:=[v4,st u.name,.bool true]) rfl rfl rfl rfl RF hnl (l4.trans l5) (o4.mono l5)) rfl ?_;rintro _ H9 ⟨rfl,l9,o9,-⟩;refine nmI ?_;simp only[cA,nA];have hk9:(Bz L u.name (Value.bool true)).map (·.1)=(us.take (i+1)).map (·.name):=by
   unfold Bz;rw[if_neg vA,bM,hL,take_snoc hx,bM,yK.name];rfl
  exact⟨(i+1,Bz L u.name (.bool true)),by show us.length-(i+1)<us.length-i;omega,(By rfl (by show Value.bool u.wat=Value.bool (decide (n<i+1));rw[rG];congr 1;apply decide_eq_decide.2;omega) (j5 rfl aA)),⟨by show i+1<=_;omega,l9,o9,hk9⟩⟩
 ·replace hil:=oDf hil;exact d4 rfl ⟨(l1.trans l2).trans l4,rfl⟩
end
end Go.Z
namespace Go.RX
open RowKit
def mkO (o:Oper) (d:Option Tmp) (p:Op):Oper:=⟨d,p,o.type,o.pos,o.after,none⟩
def e0G (fn:Func) (T E:TypeId) (g:FuncId):Code:=
 .seq (.region 0 #[mkO (opr fn 0 0) (some 2) (.alloc T),mkO (opr fn 0 1) (some 3) (.alloc E)] false)
 (.seq (.region 1 #[mkO (opr fn 1 0) (some 4) (.makeFunc (.func g) #[] #[.tmp 2,.tmp 3]),mkO (opr fn 1 1) none (.defer ⟨.value (.tmp 4),#[],#[]⟩)] false)
 (.seq (.region 2 #[mkO (opr fn 2 0) (some 5) (.move (.tmp 0)),mkO (opr fn 2 1) (some 6) (.call ⟨.value (.tmp 5),#[],#[]⟩),mkO (opr fn 2 2) none (.store T (.tmp 2) (.tmp 6)),mkO (opr fn 2 3) none (.store E (.tmp 3) (.const (.int .i64 0)))] false) .ret))
def e0H (fn:Func) (AT:TypeId) (rest:Code):Code:=
 .seq (.region 0 #[mkO (opr fn 0 0) (some 6) (.call ⟨.builtin .recover,#[],#[]⟩),mkO (opr fn 0 1) (some 2) (.assign (.tmp 6))] false)
 (.seq (.region 1 #[mkO (opr fn 1 0) (some 7) (.move (.tmp 2)),mkO (opr fn 1 1) (some 8) (.binOp .neq AT (.tmp 7) (.const .nilIface) AT)] false)
 (.cond (.tmp 8) rest .skip))
structure Hu (P:Program) (f g:FuncId) (T E AT:TypeId) (fn gn:Func) (rest:Code):Prop where
 hf:P.funcs[f]? =some fn
 hb:fn.body=some (e0G fn T E g)
 hn:fn.ntmps=7
 hr:fn.results= #[.cell 2 T,.cell 3 E]
 gf:P.funcs[g]? =some gn
 gb:gn.body=some (e0H gn AT rest)
 gnt:gn.ntmps=20
 gr:gn.results= #[]
 ge:n8 P g=true
 gi:P.underlying AT=some (.interface (P.methodsAt AT))
def d6b {P:Program} {f g:FuncId} {T E AT:TypeId} {fn gn:Func} {rest:Code} (h:Hu P f g T E AT fn gn rest) (p q:Value) (w:World):
  CallsDIn Fence.wide 0 P g #[p,q] .returning w fun e u' w'=>e= .returned (.tuple #[])/\u'= .returning/\w'=w:=by
 refine callsDIn_of_wpSIn h.gf h.gb trivial fun c₀ cs hu=> ?_;apply wpSIn_seq;apply wpSIn_region;simp[wpOpsSIn,go_sem,recoverD,hu,h.gnt,Exit.thenS,mkO];apply wpSIn_seq;apply wpSIn_region;simp[wpOpsSIn,go_sem,Exit.thenS,eqGuard,run_neq_nil_nil _ _ h.gi];refine wpSIn_cond (t:=false) (by simp[Act.eval]) ?_;simp only[aY,if_false];refine wpSIn_of_wpIn rfl (wpIn_skip ?_);cases c₀;simp_all[bodyPostS,results,h.gr]
section
variable {P:Program} {f g k:FuncId} {T E AT:TypeId} {fn gn:Func} {rest:Code} {z:Value}
def Ek {n:Nat} {ops:Array Oper} {Q:Exit->Act->World->Prop} {i:Nat} {l:List Nat} {a:Act} {w w':World} {v:Value} {o:Oper} (ho:ops[i]? =some o) (hg:o.guard=none) (hd:∀c,o.op≠ .defer c) (hr:(execOp a.eval o).run P w= .ok (.value v) w') (h:wpOpsIn Fence.wide n P ops Q l (a.put o.dst v) w'):wpOpsIn Fence.wide n P ops Q (i::l) a w:=by
 unfold wpOpsIn;rw[ho];simp only;rw[if_pos (by simp[Region.wanted,hg])];refine⟨fun _ _=>trivial,?_⟩;rw[Oper.semAt_eq _ _ _ hd,hr];exact h
def BX {n:Nat} {ops:Array Oper} {Q:Exit->Act->World->Prop} {i:Nat} {l:List Nat} {a:Act} {w w':World} {o:Oper} (ho:ops[i]? =some o) (hg:o.guard=none) (hd:∀c,o.op≠ .defer c) (hr:(execOp a.eval o).run P w= .ok .skip w') (h:wpOpsIn Fence.wide n P ops Q l (a.put o.dst undef) w'):wpOpsIn Fence.wide n P ops Q (i::l) a w:=by
 unfold wpOpsIn;rw[ho];simp only;rw[if_pos (by simp[Region.wanted,hg])];refine⟨fun _ _=>trivial,?_⟩;rw[Oper.semAt_eq _ _ _ hd,hr];exact h
def c3N {n:Nat} {ops:Array Oper} {Q:Exit->Act->World->Prop} {i:Nat} {l:List Nat} {a:Act} {w w':World} {d:Deferred} {o:Oper} (ho:ops[i]? =some o) (hg:o.guard=none) (hr:(o.semAt Fence.wide.round a.eval).run P w= .ok (.defer d) w') (h:wpOpsIn Fence.wide n P ops Q l ({a with defers:=d::a.defers}.put o.dst undef) w'):wpOpsIn Fence.wide n P ops Q (i::l) a w:=by
 unfold wpOpsIn;rw[ho];simp only;rw[if_pos (by simp[Region.wanted,hg])];refine⟨fun _ _=>trivial,?_⟩;rw[hr];exact h
def c9Q {n:Nat} {ops:Array Oper} {Q:Exit->Act->World->Prop} {i:Nat} {l:List Nat} {a:Act} {w w':World} {f:FuncId} {args:Array Value} {o:Oper} {R:Ending->World->Prop} (ho:ops[i]? =some o) (hg:o.guard=none) (hd:∀c,o.op≠ .defer c) (hr:(execOp a.eval o).run P w= .ok (.enter f args) w') (hc:Calls P f args w' R)
  (h:∀e w'',R e w''->(∃v,e= .returned v/\wpOpsIn Fence.wide n P ops Q l (a.put o.dst v) w'')\/(∃x,e=pnE x/\Q (.panic [{v:=x,recovered:=false}]) a w'')):wpOpsIn Fence.wide n P ops Q (i::l) a w:=by
 unfold wpOpsIn;rw[ho];simp only;rw[if_pos (by simp[Region.wanted,hg])];refine⟨fun _ _=>trivial,?_⟩;rw[Oper.semAt_eq _ _ _ hd,hr];refine⟨fun e=>by simp[Fence.wide]at e,(callsIn_wide (n:=n-1)).2 (hc.mono fun e w'' hh=> ?_)⟩;rcases h e w'' hh with⟨v,he,hv⟩|⟨x,he,hv⟩
 ·subst he;exact hv
 ·subst he;exact hv
structure CcT (P:Program) (T E:TypeId) (z:Value):Prop where
 hT:r9 P T=true
 hE:r9 P E=true
 zT:(P.info? T).bind (·.zero)=some z
 zE:(P.info? E).bind (·.zero)=some (.int .i64 0)
 zs:z.cells.size=P.cellsOf T
 cE:P.cellsOf E=1
 aE:r8 P E=false
 cT:r8 P T=false->0<P.cellsOf T
def nh {T:TypeId} {z:Value} (h:(P.info? T).bind (·.zero)=some z) {o:Oper} (ho:o.op= .alloc T) (ev:Operand->Value) (w:World):(execOp ev o).run P w= .ok (.value (.pointer (some ⟨w.heap.size,0,none⟩))) (w.alloc (.cells z.cells T)):=by
 rw[Option.bind_eq_some_iff]at h;obtain⟨i,hi,hz⟩:=h;simp only[execOp,ho,Instr.alloc,zeroValue,eK,run_typeInfo w hi,eJ,hz,newVar,newRow,eL];rfl
def bf (P:Program) (g:FuncId) (T E:TypeId) (z x:Value) (e:Int):Prop:=
 ∀(b c:Nat) (W:World),b≠c->W.heap[b]? =some (.cells z.cells T (0,0))->W.heap[c]? =some (.cells #[.int .i64 0] E (0,0))->
  CallsDIn Fence.wide 0 P g #[.pointer (some ⟨b,0,none⟩),.pointer (some ⟨c,0,none⟩)] (.panicking [{v:=x,recovered:=false}]) W fun en u' w'=>
   en= .returned (.tuple #[])/\u'= .panicking [{v:=x,recovered:=true}]/\Step ((PH.nil.put b (.cells z.cells T (0,0))).put c (.cells #[.int .i64 0] E (0,0))) W ((PH.nil.put b (.cells z.cells T (0,0))).put c (.cells #[.int .i64 e] E (0,0))) w'
def rdV (P:Program) (T:TypeId) (cs:Array Value):Value:=if r8 P T then .agg cs else cs.getD 0 undef
def ni {T:TypeId} (hT:r9 P T=true) {cs:Array Value} (hc:cs.size=P.cellsOf T) (h0:r8 P T=false->0<cs.size) {w:World} {b:Nat} {S:TypeId} (h:w.heap[b]? =some (.cells cs S (0,0))) (tm:Array Value) {t:Tmp} (ht:tm.getD t undef= .pointer (some ⟨b,0,none⟩)):(Ji tm (.cell t T)).run P w= .ok (rdV P T cs) w:=by
 have:=Yr (P:=P) (q:=0) hT h aA h0;have e:(if r8 P T then Value.agg (cs.extract 0 (0+P.cellsOf T))else cs.getD 0 undef)=rdV P T cs:=by unfold rdV;rw[bJ,<-hc,Array.extract_size]
 rw[e]at this;refine um (a:=⟨tm,[]⟩) ?_;simp only[execOp,ldO,eK];show((Instr.loadAt T (tm.getD t undef)).run P w).andThen _=_;rw[ht,this];rfl
def RG {H H':PH} {W W2 w3 w5:World} (hH:H.In W) (h0:Ext W W2) (h3:Step H W2 H' w3) (hN:W2.heap.size=W.heap.size+2) (e1:w5.os=w3.os) (e2:w5.tape=w3.tape) (e3:w5.output=w3.output) (hs:w3.heap.size<=w5.heap.size) (hd:w3.drawn<=w5.drawn)
  (hk:∀i,i≠W.heap.size->i≠W.heap.size+1->i<w3.heap.size->w5.heap[i]? =w3.heap[i]?):Step H W H' w5:=by
 have rN:=h3.size;refine⟨e1.trans (h3.os.trans h0.os),e2.trans (h3.tape.trans h0.tape),e3.trans (h3.output.trans h0.output),aA,fun i hi hn=> ?_,fun b o hb=> ?_,fun b hb=> ?_,cK h0.dr (cK h3.dr hd)⟩
 ·rw[hk i aA aA aA,h3.block i aA hn,h0.block' hi]
 ·have hw:=h3.holds b o hb;have rO:=h3.dom b (by rw[hb];simp);have h9:b≠W.heap.size/\b≠W.heap.size+1:=by
   rcases rO with h|h
   ·cases e:H b with
    |none=>exact absurd e h
    |some o'=>have:=y9 (hH b o' e);omega
   ·omega
  rw[hk b h9.1 h9.2 (y9 hw),hw]
 ·rcases h3.dom b hb with h|h
  ·exact .inl h
  ·right;omega
def bj {T S:TypeId} {w:World} {b:Nat} {cs:Array Value} {v:Value} {ev:Operand->Value} {o:Oper} {x y:Operand} (ho:o.op= .store T x y) (hT:r9 P T=true) (hb:w.heap[b]? =some (.cells cs S (0,0))) (hx:ev x= .pointer (some ⟨b,0,none⟩)) (hy:ev y=v) (hs:cs.size=P.cellsOf T) (hv:v.cells.size=P.cellsOf T) (h1:j0 v.cells):(execOp ev o).run P w= .ok .skip (w.setRow b v.cells):=by
 simp only[execOp,ho,hx,hy,eK];rw[ub (q:=0) hT hb aA hv h1,gd (by rw[bA];omega),Array.toArray_toList];rfl
def bm (hm:P.follows .mixedOrders=true) (h:Hu P f g T E AT fn gn rest) (t:CcT P T E z) (hk:n8 P k=true) {caps:List Value} {H:PH} {V X:Value->PH->Prop} (hc:Gg P k caps H V X) (hV:∀v H',V v H'->v.cells.size=P.cellsOf T/\j0 v.cells/\rdV P T v.cells=v)
  {XE:Int->PH->Prop} (hX:∀x H',X x H'->∃e,bf P g T E z x e/\XE e H'):Con P f [.func (.func k) #[] caps.toArray] H fun r H'=>(∃v,V v H'/\r= .tuple #[v,.int .i64 0])\/(∃e,XE e H'/\r= .tuple #[rdV P T z.cells,.int .i64 e]):=by
 intro W hW;refine(callsIn_wide (n:=0)).1 (callsIn_of_wp_marks h.hf h.hb trivial ?_);have sD:=(Ext.alloc W (.cells z.cells T)).trans (Ext.alloc (W.alloc (.cells z.cells T)) (.cells #[.int .i64 0] E));generalize sA:(W.alloc (.cells z.cells T)).alloc (.cells #[.int .i64 0] E)=W2 at sD;have xY:W2.heap.size=W.heap.size+2:=by rw[<-sA];show((W.heap.push _).push _).size=_;rw[iU,iU]
 have hN:W2.heap[W.heap.size]? =some (.cells z.cells T (0,0)):=by
  rw[<-sA];rw[(Ext.alloc (W.alloc (.cells z.cells T)) _).block' (by show _<(W.heap.push _).size;rw[iU];exact bW _)];exact World.alloc_heap_new W _
 have hN1:W2.heap[W.heap.size+1]? =some (.cells #[.int .i64 0] E (0,0)):=by
  rw[<-sA];have:=World.alloc_heap_new (W.alloc (.cells z.cells T)) (.cells #[.int .i64 0] E);rw[show(W.alloc (.cells z.cells T)).heap.size=W.heap.size+1 from iU ..]at this;exact this
 rw[h.hn];apply wpIn_seq;apply wpIn_region;refine Ek (o:=mkO (opr fn 0 0) (some 2) (.alloc T)) rfl rfl (fun c e=>by cases e) (nh t.zT rfl _ _) ?_;refine Ek (o:=mkO (opr fn 0 1) (some 3) (.alloc E)) rfl rfl (fun c e=>by cases e) (nh t.zE rfl _ _) ?_;rw[show(Value.int IntKind.i64 0).cells= #[.int .i64 0]from rfl,sA];have eN1:(W.alloc (.cells z.cells T)).heap.size=W.heap.size+1:=iU ..;rw[eN1];show Code.wpIn Fence.wide 0 P _ _ ⟨#[.func (.func k) #[] caps.toArray,undef,.pointer (some ⟨W.heap.size,0,none⟩),.pointer (some ⟨W.heap.size+1,0,none⟩),undef,undef,undef],[]⟩ W2;generalize hp:Value.pointer (some ⟨W.heap.size,0,none⟩)=p;generalize hq:Value.pointer (some ⟨W.heap.size+1,0,none⟩)=q;apply wpIn_seq;apply wpIn_region;refine Ek (o:=mkO (opr fn 1 0) (some 4) (.makeFunc (.func g) #[] #[.tmp 2,.tmp 3])) (v:= .func (.func g) #[] #[p,q]) (w':=W2) rfl rfl (fun c e=>by cases e) (by simp[execOp,mkO,Instr.makeFunc,Act.eval]) ?_;refine c3N (d:=⟨.fn (.func g) #[p,q],#[]⟩) (w':=W2) rfl rfl ?_ ?_
 ·simp[Oper.semAt,mkO,Act.eval,Act.put,Fence.wide,execOp,resolve,Deferred.ofValue]
 show Code.wpIn Fence.wide 0 P _ _ ⟨#[.func (.func k) #[] caps.toArray,undef,p,q,.func (.func g) #[] #[p,q],undef,undef],[⟨.fn (.func g) #[p,q],#[]⟩]⟩ W2;apply wpIn_seq;apply wpIn_region;refine Ek (o:=mkO (opr fn 2 0) (some 5) (.move (.tmp 0))) (v:= .func (.func k) #[] caps.toArray) (w':=W2) rfl rfl (fun c e=>by cases e) rfl ?_;refine c9Q (o:=mkO (opr fn 2 1) (some 6) (.call ⟨.value (.tmp 5),#[],#[]⟩)) (f:=k) (args:=caps.toArray) rfl rfl (fun c e=>by cases e) ?_ (hc W2 (hW.ext sD)) ?_
 ·simp[execOp,mkO,Act.eval,Act.put,resolve,Deferred.ofValue,invoke];exact La hk _ _
 rintro e w3 (⟨v,H',rfl,h3,hv⟩|⟨x,H',rfl,h3,hx⟩)
 ·left;refine⟨v,rfl,?_⟩;obtain⟨v1,v2,v3⟩:=hV v H' hv;have rN:=h3.size;have nH:∀i,W.heap.size<=i->H i=none:=fun i hi=>by
   cases e:H i with
   |none=>rfl
   |some o=>have:=y9 (hW i o e);omega
  have k0:w3.heap[W.heap.size]? =some (.cells z.cells T (0,0)):=(h3.block _ aA (nH _ (aS _))).trans hN;have k1:w3.heap[W.heap.size+1]? =some (.cells #[.int .i64 0] E (0,0)):=(h3.block _ aA (nH _ aA)).trans hN1;refine BX (o:=mkO (opr fn 2 2) none (.store T (.tmp 2) (.tmp 6))) (w':=w3.setRow W.heap.size v.cells) rfl rfl (fun c e=>by cases e) (bj rfl t.hT k0 hp.symm rfl t.zs v1 v2) ?_;have k1':(w3.setRow W.heap.size v.cells).heap[W.heap.size+1]? =some (.cells #[.int .i64 0] E (0,0)):=by rw[setRow_other _ _ _ _ aA,k1]
  refine BX (o:=mkO (opr fn 2 3) none (.store E (.tmp 3) (.const (.int .i64 0)))) (w':=(w3.setRow W.heap.size v.cells).setRow (W.heap.size+1) #[.int .i64 0]) rfl rfl (fun c e=>by cases e) (bj (v:= .int .i64 0) rfl t.hE k1' hq.symm rfl t.cE.symm t.cE.symm (by intro c hc;simp[Value.cells]at hc;subst hc;rfl)) ?_;refine wpIn_ret ?_;show LeavesInM Fence.wide 0 P fn #[.func (.func k) #[] caps.toArray,undef,p,q,.func (.func g) #[] #[p,q],.func (.func k) #[] caps.toArray,v] _ [⟨.fn (.func g) #[p,q],#[]⟩] .returning _;generalize hw5:(w3.setRow W.heap.size v.cells).setRow (W.heap.size+1) #[.int .i64 0]=w5;refine⟨aD,.inr ⟨fun e=>by simp[Fence.wide]at e,.func g,#[p,q],g,#[p,q],rfl,La h.ge _ _,fun _ _=>trivial,?_⟩⟩;refine(d6b h p q w5).mono ?_;rintro e u' w' ⟨rfl,rfl,rfl⟩;have r0:w'.heap[W.heap.size]? =some (.cells v.cells T (0,0)):=by rw[<-hw5,setRow_other _ _ _ _ aA];exact setRow_heap _ _ _ _ _ (0,0) k0
  have r1:w'.heap[W.heap.size+1]? =some (.cells #[.int .i64 0] E (0,0)):=by rw[<-hw5];exact setRow_heap _ _ _ _ _ (0,0) k1'
  refine⟨.tuple #[v,.int .i64 0],ut (l:=[v,.int .i64 0]) ?_,_,H',rfl,RG hW sD h3 xY ?_ ?_ ?_ ?_ ?_ ?_,.inl ⟨v,hv,rfl⟩⟩
  ·rw[h.hr];have a0:=ni (P:=P) t.hT v1 (fun e=>by rw[v1];exact t.cT e) r0 #[.func (.func k) #[] caps.toArray,undef,p,q,.func (.func g) #[] #[p,q],.func (.func k) #[] caps.toArray,v] (t:=2) hp.symm;have a1:=ni (P:=P) (cs:= #[.int .i64 0]) t.hE t.cE.symm (fun e=>bW 0) r1 #[.func (.func k) #[] caps.toArray,undef,p,q,.func (.func g) #[] #[p,q],.func (.func k) #[] caps.toArray,v] (t:=3) hq.symm;rw[v3]at a0;have e1:rdV P E #[.int .i64 0]= .int .i64 0:=by unfold rdV;rw[t.aE];rfl
   rw[e1]at a1;simp only[kC,oW,eK,a0,a1,eJ,eL]
  ·rw[<-hw5];rfl
  ·rw[<-hw5];rfl
  ·rw[<-hw5];rfl
  ·rw[<-hw5,setRow_size,setRow_size];exact aS _
  ·rw[<-hw5];exact aS _
  ·intro i i1 i2 i3;rw[<-hw5,setRow_other _ _ _ _ i2,setRow_other _ _ _ _ i1]
 ·right;refine⟨x,rfl,?_⟩;have rN:=h3.size;have nH:∀i,W.heap.size<=i->H i=none:=fun i hi=>by
   cases e:H i with
   |none=>rfl
   |some o=>have:=y9 (hW i o e);omega
  have k0:w3.heap[W.heap.size]? =some (.cells z.cells T (0,0)):=(h3.block _ aA (nH _ (aS _))).trans hN;have k1:w3.heap[W.heap.size+1]? =some (.cells #[.int .i64 0] E (0,0)):=(h3.block _ aA (nH _ aA)).trans hN1;obtain⟨e,hce,hxe⟩:=hX x H' hx;show LeavesInM Fence.wide 0 P fn #[.func (.func k) #[] caps.toArray,undef,p,q,.func (.func g) #[] #[p,q],.func (.func k) #[] caps.toArray,undef] _ [⟨.fn (.func g) #[p,q],#[]⟩] (.panicking [{v:=x,recovered:=false}]) _;refine⟨aD,.inr ⟨fun e=>by simp[Fence.wide]at e,.func g,#[p,q],g,#[p,q],rfl,La h.ge _ _,fun _ _=>trivial,?_⟩⟩;have hd:=hce W.heap.size (W.heap.size+1) w3 aA k0 k1;rw[hp,hq]at hd;refine hd.mono ?_;rintro en u' w' ⟨rfl,rfl,rB⟩;have r0:w'.heap[W.heap.size]? =some (.cells z.cells T (0,0)):=rB.holds _ _ (by unfold PH.put;rw[if_neg aA,if_pos rfl]);have r1:w'.heap[W.heap.size+1]? =some (.cells #[.int .i64 e] E (0,0)):=rB.holds _ _ (by unfold PH.put;rw[if_pos rfl]);refine⟨.tuple #[rdV P T z.cells,.int .i64 e],ut (l:=[rdV P T z.cells,.int .i64 e]) ?_,_,H',rfl,RG hW sD h3 xY rB.os rB.tape rB.output rB.size rB.dr ?_,.inr ⟨e,hxe,rfl⟩⟩
  ·rw[h.hr];have a0:=ni (P:=P) t.hT t.zs (fun e=>by rw[t.zs];exact t.cT e) r0 #[.func (.func k) #[] caps.toArray,undef,p,q,.func (.func g) #[] #[p,q],.func (.func k) #[] caps.toArray,undef] (t:=2) hp.symm;have a1:=ni (P:=P) (cs:= #[.int .i64 e]) t.hE t.cE.symm (fun e=>bW 0) r1 #[.func (.func k) #[] caps.toArray,undef,p,q,.func (.func g) #[] #[p,q],.func (.func k) #[] caps.toArray,undef] (t:=3) hq.symm;have e1:rdV P E #[.int .i64 e]= .int .i64 e:=by unfold rdV;rw[t.aE];rfl
   rw[e1]at a1;simp only[kC,oW,eK,a0,a1,eJ,eL]
  ·intro i i1 i2 i3;exact rB.block i i3 (by unfold PH.put;rw[if_neg aA,if_neg aA];rfl)
def Px (hm:P.follows .mixedOrders=true) (h:Hu P f g T E AT fn gn rest) (t:CcT P T E z) (hk:n8 P k=true) {caps:List Value} {H:PH} {V:Value->PH->Prop} (hc:Con P k caps H V) (hV:∀v H',V v H'->v.cells.size=P.cellsOf T/\j0 v.cells/\rdV P T v.cells=v):
  Con P f [.func (.func k) #[] caps.toArray] H fun r H'=>∃v,V v H'/\r= .tuple #[v,.int .i64 0]:=
 (bm hm h t hk (X:=fun _ _=>False) hc.toX hV (XE:=fun _ _=>False) (fun _ _ hx=>hx.elim)).mono fun r H' hh=>hh.resolve_right fun⟨_,he,_⟩=>he
def Iu:Option Code->Code
 |some (.seq _ (.seq _ (.cond _ a _)))=>a
 |_=> .skip
end
end Go.RX
