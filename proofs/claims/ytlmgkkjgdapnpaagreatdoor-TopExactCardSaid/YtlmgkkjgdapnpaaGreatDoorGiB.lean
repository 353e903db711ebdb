/- Drafts of chapter 21: graphs and plans. -/
import Derived.Test.YtlmgkkjgdapnpaaGreatDoorGiA
import Derived.Test.YtlmgkkjgdapnpaaGreatDoorGdT
namespace Go.Proofs.YtlmgkkjgdapnpaaGreatDoor
open Go.Proofs.Tryz
open Go.RowKit Go.RX Go.GS Go.RZ Go.WD
set_option maxRecDepth 100000
def cU8 (c:Nat):List Value:=[.int .u8 (c:Nat)]
theorem b0C:El prog 22 5 1 false cU8 (fun c:Nat=> .int .u8 (c:Nat)) where
 und:=by kernel_rfl
 has:=by kernel_rfl
 cel:=by kernel_rfl
 agg:=by kernel_rfl
 pos:=by decide
 one1:=fun _=>rfl
 small:=by decide
 inf:=⟨(prog.info? 5).getD default,.int .u8 0,by kernel_rfl,by kernel_rfl,by kernel_rfl,rfl,of_decide_eq_true (by kernel_rfl)⟩
 len:=fun _=>rfl
 val:=fun _=>rfl
 cells:=fun _=>rfl
 one:=fun x c hc=>by simp[cU8]at hc;subst hc;rfl
def cBB (e:Nat×Nat):List Value:=[.int .u8 (e.1:Nat),.int .u8 (e.2:Nat)]
theorem d2Z:El prog 23 212 2 true cBB (fun e=> .agg (cBB e).toArray) where
 und:=by kernel_rfl
 has:=by kernel_rfl
 cel:=by kernel_rfl
 agg:=by kernel_rfl
 pos:=by decide
 one1:=fun h=>by cases h
 small:=by decide
 inf:=⟨(prog.info? 212).getD default,.agg #[.int .u8 0,.int .u8 0],by kernel_rfl,by kernel_rfl,by kernel_rfl,rfl,of_decide_eq_true (by kernel_rfl)⟩
 len:=fun _=>rfl
 val:=fun _=>rfl
 cells:=fun _=>rfl
 one:=fun x c hc=>by simp[cBB]at hc;rcases hc with rfl|rfl<;>rfl
theorem d5J:Ar prog 212 5 2:=⟨by kernel_rfl,by kernel_rfl,by kernel_rfl,by kernel_rfl,d2i⟩
theorem a8D {ρ:List Value} {x:SV} {c:Nat} (hx:D prog ρ x= .int .u8 (c:Nat)) (hc:c<256):D prog ρ (.cv .i64 x)=ii (c:Nat):=by
 show Value.int .i64 (IntKind.i64.wrap (intOf (D prog ρ x)))=_
 rw[hx]
 show Value.int .i64 (IntKind.i64.wrap ((c:Nat):Int))=_
 rw[show IntKind.i64.wrap ((c:Nat):Int)=((c:Nat):Int) by rw[IntKind.wrap_i64];omega]
 rfl
theorem a3K {ρ:List Value} {x y:SV} {c m:Nat} (hx:D prog ρ x=ii (c:Nat)) (hy:D prog ρ y=ii (m:Nat)):D prog ρ (.op2 .rem .i64 x y)=ii ((c%m:Nat):Int):=by
 show a2U .rem .i64 (intOf (D prog ρ x)) (intOf (D prog ρ y))=_
 rw[hx,hy]
 show Value.int .i64 (Int.tmod ((c:Nat):Int) ((m:Nat):Int))=_
 rw[<-Int.ofNat_tmod]
 rfl
theorem c2F {ρ:List Value} {x:SV} {a m:Nat} {mi:Int} (hx:D prog ρ x= .int .u8 (a:Nat)) (hmi:mi=(m:Nat)) (hm:m<1000) (h0:0<m):D prog ρ (.op2 .add .i64 (.k (.int .i64 1)) (.cv .i64 (.op2 .rem .u8 x (.k (.int .u8 mi)))))=ii ((1+a%m:Nat):Int):=by
 subst hmi
 show a2U .add .i64 1 (IntKind.i64.wrap (Int.tmod (intOf (D prog ρ x)) (m:Nat)))=_
 rw[hx]
 show Value.int .i64 (IntKind.i64.wrap (1+IntKind.i64.wrap (Int.tmod ((a:Nat):Int) (m:Nat))))=_
 rw[<-Int.ofNat_tmod]
 have:=Nat.mod_lt a h0
 congr 1
 rw[IntKind.wrap_i64,IntKind.wrap_i64]
 omega
theorem d7r:a0G prog 150= .agg #[ii 0,ii 0]:=by kernel_rfl
theorem d7s {ρ:List Value} {x y:SV} {a b:Nat} (hx:D prog ρ x=ii (a:Nat)) (hy:D prog ρ y=ii (b:Nat)):D prog ρ (.put (.put (.z 150) 0 1 x 0 noI) 1 1 y 0 noI)=ev2 (a,b):=by
 show Value.agg (spl (Value.agg (spl (a0G prog 150).cells (0+0*a2G (D prog ρ noI)) (D prog ρ x).cells.toList)).cells (1+0*a2G (D prog ρ noI)) (D prog ρ y).cells.toList)=_
 rw[d7r,hx,hy,Nat.zero_mul]
 rfl
theorem d7t {ρ:List Value} {x y:SV} {n:Nat} {w u:Value} (hx:D prog ρ x=gv n w) (hy:D prog ρ y=u) (hc:u.cells= #[u]):D prog ρ (.cat (.sub x 0 1 0 noI) 1 y)=gv n u:=by
 show Value.agg ((Value.agg ((D prog ρ x).cells.extract (0+0*a2G (D prog ρ noI)) (0+0*a2G (D prog ρ noI)+1))).cells++(D prog ρ y).cells)=_
 rw[hx,hy,hc,Nat.zero_mul]
 rfl
theorem d7u:a0G prog 30= .slice none 0 0:=by kernel_rfl
def c2G (nn kk:Nat) (a b c:Value):Value:= .agg #[.int .u8 (nn:Nat),a,b,c,.int .u8 (kk:Nat)]
structure D21 (H:PH) (a b c:Value) (ps ls:List Nat) (ms:List (Nat×Nat)):Prop where
 pr:SE H 1 cU8 a ps
 mo:SE H 2 cBB b ms
 la:SE H 1 cU8 c ls
 p8:∀x∈ps,x<256
 m8:∀x∈ms,x.1<256/\x.2<256
 l8:∀x∈ls,x<256
theorem D21.mono {H H':PH} {a b c:Value} {ps ls:List Nat} {ms:List (Nat×Nat)} (h:D21 H a b c ps ls ms) (hl:PH.le H H'):D21 H' a b c ps ls ms:=⟨h.pr.mono hl,h.mo.mono hl,h.la.mono hl,h.p8,h.m8,h.l8⟩
theorem D21.one {H:PH} {a b c:Value} {ps ls:List Nat} {ms:List (Nat×Nat)} (h:D21 H a b c ps ls ms) (nn kk:Nat):(c2G nn kk a b c).cells.size=5/\a0p (c2G nn kk a b c).cells:=by
 refine⟨rfl,fun x hx=> ?_⟩
 rw[c2G,a1e]at hx
 simp only[List.mem_cons,List.not_mem_nil,or_false]at hx
 rcases hx with rfl|rfl|rfl|rfl|rfl
 ·rfl
 ·exact a0I h.pr
 ·exact a0I h.mo
 ·exact a0I h.la
 ·rfl
def UpE (a b:Nat) (es:List (Nat×Nat)):Prop:=es.Pairwise elt/\∀e∈es,e.1<e.2/\elt e (a,b)
theorem UpE.row {a b:Nat} {es:List (Nat×Nat)} (h:UpE a b es):UpE (a+1) (a+2) es:=⟨h.1,fun e he=>⟨(h.2 e he).1,.inl (by rcases(h.2 e he).2 with h1|⟨h1,_⟩<;>simp only at h1<;>omega)⟩⟩
theorem UpE.skip {a b:Nat} {es:List (Nat×Nat)} (h:UpE a b es):UpE a (b+1) es:=⟨h.1,fun e he=>⟨(h.2 e he).1,by rcases(h.2 e he).2 with h1|⟨h1,h2⟩;exact .inl h1;exact .inr ⟨h1,by simp only at h2;show e.2<b+1;omega⟩⟩⟩
theorem UpE.put {a b:Nat} {es:List (Nat×Nat)} (h:UpE a b es) (hab:a<b):UpE a (b+1) (es++[(a,b)]):=by
 refine⟨List.pairwise_append.2 ⟨h.1,List.pairwise_singleton _ _,fun e he f hf=> ?_⟩,fun e he=> ?_⟩
 ·rw[List.mem_singleton]at hf;subst hf;exact(h.2 e he).2
 ·rcases List.mem_append.1 he with he|he
  ·exact h.skip.2 e he
  ·rw[List.mem_singleton]at he;subst he;exact⟨hab,.inr ⟨rfl,by show b<b+1;omega⟩⟩
section
variable {H:PH} {a b c:Value} {ps ls:List Nat} {ms:List (Nat×Nat)} {nn kk:Nat}
theorem a3r (h:D21 H a b c ps ls ms):Asks prog 17 [c2G nn kk a b c] H (ii ((1+nn%9:Nat):Int)):=by
 refine a0b mixed c2u (by kernel_rfl) rfl ?_
 refine a0a (h.one nn kk) ?_
 refine a0a ⟨_,rfl⟩ ?_
 exact a0c (show D prog _ _=_ from c2F (m:=9) (mi:=9) rfl rfl (by decide) (by decide)) ⟨rfl,rfl⟩
theorem c7k {ρ:List Value} {x:SV} {i:Nat} (hx:D prog ρ x=ii (i:Nat)) (hi:1<=i) (h2:i<1000000):D prog ρ (.op2 .sub .i64 x (.k (.int .i64 1)))=ii ((i-1:Nat):Int):=by
 rw[a7R hx (y:=1) rfl (by omega) (by omega),show((i:Nat):Int)-1=((i-1:Nat):Int) by omega]
theorem a9p (h:D21 H a b c ps ls ms) {i:Nat} (hi:1<=i) (h2:i<1000000):Asks prog 60 [c2G nn kk a b c,ii (i:Nat)] H (ii ((a6U ps i:Nat):Int)):=by
 refine a0b mixed c2v (by kernel_rfl) rfl ?_
 refine a0a (h.one nn kk) ?_
 refine a0a ⟨_,rfl⟩ ?_
 refine a0j b0C rfl rfl h.pr rfl ?_
 refine a0a ⟨_,rfl⟩ ?_
 refine a0f (b:=decide (((i-1:Nat):Int)<(ps.length:Nat))) (by show Value.bool (decide (intOf (D prog _ (.op2 .sub .i64 _ _))<_))=_;rw[c7k rfl hi h2];rfl) (fun hl=> ?_) (fun hl=> ?_)
 ·replace hl:=of_decide_eq_true hl
  have hl':i-1<ps.length:=by omega
  have hx:ps[i-1]? =some ps[i-1]:=List.getElem?_eq_getElem hl'
  refine a0m b0C rfl rfl rfl rfl (fun _=>rfl) h.pr hx (a0R rfl (c7k rfl hi h2)) (fun _=>rfl) fun _=> ?_
  simp only[cA,nA]
  refine a0a ⟨_,rfl⟩ ?_
  refine a0a (show((i:Nat):Int)≠0 by omega) ?_
  exact a0c (show D prog _ _=_ from a3K (a8D rfl (h.p8 _ (List.getElem_mem hl'))) rfl) ⟨rfl,by unfold a6U;rw[hx]⟩
 ·replace hl:=of_decide_eq_false hl
  have hx:ps[i-1]? =none:=List.getElem?_eq_none (by omega)
  exact a0c (show D prog _ _=_ from c7k rfl hi h2) ⟨rfl,by unfold a6U;rw[hx]⟩
theorem b6L (h:D21 H a b c ps ls ms) {i j:Nat} (hj:1<=j) (h2:j<1000000):Con prog 62 [c2G nn kk a b c,ii (i:Nat),ii (j:Nat)] H fun r H'=>H'=H/\∃q:Bool,r= .bool q/\(a6U ps j=i->q=true):=by
 refine a0b mixed c2w (by kernel_rfl) rfl ?_
 refine a0a (h.one nn kk) ?_
 refine a0q (a9p h hj h2) rfl ?_
 simp only[cA,nA]
 refine a0a ⟨_,rfl⟩ ?_
 refine a0a ⟨_,rfl⟩ ?_
 refine a0f (b:=decide (a6U ps j=i)) (bEk _ _) (fun hp=> ?_) (fun hp=> ?_)
 ·replace hp:=of_decide_eq_true hp
  exact a0c rfl ⟨rfl,true,rfl,fun _=>rfl⟩
 ·replace hp:=of_decide_eq_false hp
  refine a0W (α:=Nat) (fun x=>[.bool false,ii (x:Nat)]) (fun x=>x<=12) (fun x=>12-x) (0) rfl (Nat.zero_le _) fun x hQ=> ?_
  simp only[cA,nA]
  refine⟨(fun l H'=>H'=H/\∃q:Bool,l=[.bool q]/\(q=true->x<ms.length/\x<12)),?_,?_⟩
  ·skip
   refine a0j d2Z rfl rfl h.mo rfl ?_
   refine a0a ⟨_,rfl⟩ ?_
   refine a0a ⟨_,rfl⟩ ?_
   refine a0f (b:=decide (((x:Nat):Int)<(ms.length:Nat))) rfl (fun h3=> ?_) (fun h3=> ?_)
   ·replace h3:=of_decide_eq_true h3
    exact⟨rfl,decide (((x:Nat):Int)<12),rfl,fun e=>⟨by omega,by have:=of_decide_eq_true e;omega⟩⟩
   ·replace h3:=of_decide_eq_false h3
    exact⟨rfl,false,rfl,fun e=>nomatch e⟩
  rintro _ H _ ⟨rfl,q,rfl,hq⟩
  simp only[cA,nA]
  refine a0a ⟨_,rfl⟩ ?_
  refine a0f (b:=q) rfl (fun h3=> ?_) (fun h3=> ?_)
  ·skip
   obtain⟨hi1,hi2⟩:=hq h3
   have hm:=List.getElem?_eq_getElem hi1
   refine b9z d2Z (c:=(.int .u8 ((ms[x]).1:Nat))) d5J (by decide) rfl rfl rfl rfl rfl rfl (fun _=>rfl) (fun _=>rfl) (fun _=>rfl) h.mo hm rfl (fun _=>rfl) (fun _ _=>rfl) fun _ _=> ?_
   simp only[cA,nA]
   refine a0a ⟨_,rfl⟩ ?_
   refine b9z d2Z (c:=(.int .u8 ((ms[x]).2:Nat))) d5J (by decide) rfl rfl rfl rfl rfl rfl (fun _=>rfl) (fun _=>rfl) (fun _=>rfl) h.mo hm rfl (fun _=>rfl) (fun _ _=>rfl) fun _ _=> ?_
   simp only[cA,nA]
   have hm8:=h.m8 _ (List.getElem_mem hi1)
   refine a0a ⟨_,rfl⟩ ?_
   refine a0q (a3r h) rfl ?_
   simp only[cA,nA]
   refine a0a ⟨_,rfl⟩ ?_
   refine a0a (show((1+nn%9:Nat):Int)≠0 by omega) ?_
   refine a0q (a3r h) rfl ?_
   simp only[cA,nA]
   refine a0a ⟨_,rfl⟩ ?_
   refine a0a (show((1+nn%9:Nat):Int)≠0 by omega) ?_
   refine⟨(fun l H'=>H'=H/\∃p:Bool,l=[.bool p]),?_,?_⟩
   ·skip
    refine a0l ((a6I (vs:=[ii (((ms[x]).1%(1+nn%9):Nat):Int),ii (((ms[x]).2%(1+nn%9):Nat):Int)]) rfl rfl rfl).rds _) (a0R (a3K (a8D rfl hm8.1) rfl) (a3K (a8D rfl hm8.2) rfl)) ?_
    simp only[cA,nA]
    refine a0a ⟨_,rfl⟩ ?_
    refine a0f (b:=_) rfl (fun h5=> ?_) (fun h5=> ?_)
    ·skip
     refine a0l ((b3q (vs:=[ii (((ms[x]).1%(1+nn%9):Nat):Int),ii (((ms[x]).2%(1+nn%9):Nat):Int)]) rfl rfl rfl).rds _) (a0R (a3K (a8D rfl hm8.1) rfl) (a3K (a8D rfl hm8.2) rfl)) ?_
     simp only[cA,nA]
     refine a0a ⟨_,rfl⟩ ?_
     refine a0a ⟨_,rfl⟩ ?_
     exact⟨rfl,_,rfl⟩
    ·skip
     exact⟨rfl,_,rfl⟩
   rintro _ H _ ⟨rfl,p,rfl⟩
   simp only[cA,nA]
   refine a0a ⟨_,rfl⟩ ?_
   refine a0f (b:=p) rfl (fun h6=> ?_) (fun h6=> ?_)
   ·skip
    exact a0c rfl ⟨rfl,true,rfl,fun _=>rfl⟩
   ·skip
    refine a0a ⟨_,rfl⟩ ?_
    exact⟨x+1,by show 12-(x+1)<12-x;omega,(a0R rfl (a0J rfl (by omega))),⟨by show x+1<=12;omega,rfl⟩⟩
  ·skip
   exact a0c rfl ⟨rfl,false,rfl,fun e=>absurd e hp⟩
set_option maxHeartbeats 1000000 in
theorem b6M (h:D21 H a b c ps ls ms) (hnn:nn<6):Con prog 15 [c2G nn kk a b c] H fun r H'=>PH.le H H'/\∃w es,r=gv (1+nn) w/\SG H' w es/\GV (1+nn) es/\∀v,1<=v->v<1+nn->(a6U ps v,v)∈es:=by
 refine a0b mixed c2y (by kernel_rfl) rfl ?_
 obtain⟨zg,hzg⟩:∃zg,a0G prog 32=zg:=⟨_,rfl⟩
 have hn9:1+nn%9=1+nn:=by omega
 refine a0a (h.one nn kk) ?_
 refine a0q (a3r h) rfl ?_
 simp only[cA,nA]
 rw[hn9]
 refine a0a (el_int.vcells _) ?_
 refine a0o (α:=Nat×Value×List (Nat×Nat)) (fun⟨i,w,es⟩=>[ii (i:Nat),c2G nn kk a b c,zg,gv (1+nn) w]) (fun⟨i,w,es⟩=>fun H'=>PH.le H H'/\i<=1+nn/\SO H H' 150 2 ec w es/\UpE i (i+1) es/\es.length<=i*6/\(∀e∈es,e.2<1+nn)/\∀v,1<=v->v<1+nn->a6U ps v<i->(a6U ps v,v)∈es) (fun⟨i,w,es⟩=>1+nn-i) ((0,.slice none 0 0,[])) (by refine b6Z rfl rfl hzg ?_;show Value.agg (#[ii ((1+nn:Nat):Int)]++(a0G prog 30).cells)=_;rw[d7u];rfl) (⟨PH.le.refl _,Nat.zero_le _,SO.nil _ _ _ _ _,⟨List.Pairwise.nil,fun _ h=>nomatch h⟩,Nat.zero_le _,fun _ h=>(nomatch h),fun _ _ _ h=>(by omega)⟩) fun⟨i,w,es⟩ H' hQ=> ?_
 simp only[cA,nA]
 obtain⟨l1,han,o1,hU,hlen,hed,hpe⟩:=hQ
 have h1:=h.mono l1
 refine a0a ⟨_,rfl⟩ ?_
 refine a0a ⟨_,rfl⟩ ?_
 refine a0f (b:=decide (((i:Nat):Int)<((1+nn:Nat):Int))) rfl (fun hb1=> ?_) (fun hb1=> ?_)
 ·replace hb1:=of_decide_eq_true hb1
  have han2:i<1+nn:=by omega
  refine a0o (α:=Nat×Value×List (Nat×Nat)) (fun⟨j,w2,es2⟩=>[ii (j:Nat),gv (1+nn) w2]) (fun⟨j,w2,es2⟩=>fun H''=>PH.le H H''/\i<j/\j<=1+nn/\SO H H'' 150 2 ec w2 es2/\UpE i j es2/\es2.length+(i+1)<=i*6+j/\(∀e∈es2,e.2<1+nn)/\∀v,1<=v->v<1+nn->(a6U ps v<i\/(a6U ps v=i/\v<j))->(a6U ps v,v)∈es2) (fun⟨j,w2,es2⟩=>1+nn-j) ((i+1,w,es)) (a0R (a0J rfl (by omega)) rfl) (⟨l1,by omega,by omega,o1,hU,by omega,hed,fun v v1 v2 v3=>hpe v v1 v2 (by have:=a4Y (ps:=ps) v1;omega)⟩) fun⟨j,w2,es2⟩ H2 hQ2=> ?_
  simp only[cA,nA]
  obtain⟨l2,hab,hbn,o2,hU2,hlen2,hed2,hpe2⟩:=hQ2
  have h2:=h.mono l2
  refine a0a ⟨_,rfl⟩ ?_
  refine a0a ⟨_,rfl⟩ ?_
  refine a0f (b:=decide (((j:Nat):Int)<((1+nn:Nat):Int))) rfl (fun h3=> ?_) (fun h3=> ?_)
  ·replace h3:=of_decide_eq_true h3
   have hbn2:j<1+nn:=by omega
   refine a0d (b6L (i:=i) (j:=j) h2 (by omega) (by omega)) rfl ?_
   rintro _ H2 ⟨rfl,q,rfl,hq⟩
   refine⟨fun h=>(nomatch h),?_⟩
   simp only[cA,nA]
   refine a0a ⟨_,rfl⟩ ?_
   refine a0f (b:=q) rfl (fun h4=> ?_) (fun h4=> ?_)
   ·skip
    refine a0a (el_int.vcells _) ?_
    refine a0a (el_int.vcells _) ?_
    refine a0P el_edge rfl rfl rfl (fun _=>rfl) (fun _=>rfl) l2 o2 (by omega) (a1R (d7s rfl rfl)) (fun _=>rfl) rfl fun q2 w3 H3 l3 o3=> ?_
    simp only[cA,nA]
    have hsl3:=o3.se
    refine a0a hsl3.one ?_
    exact⟨(j+1,w3,es2++[(i,j)]),by show 1+nn-(j+1)<1+nn-j;omega,(a0R (a0J rfl (by omega)) (d7t rfl rfl hsl3.cells)),⟨l3,by show i<j+1;omega,by show j+1<=1+nn;omega,o3,hU2.put hab,by show(es2++[(i,j)]).length+(i+1)<=i*6+(j+1);rw[List.length_append];simp only[List.length_cons,List.length_nil];omega,fun e he=>by rcases List.mem_append.1 he with he|he;exact hed2 e he;rw[List.mem_singleton]at he;subst he;exact hbn2,fun v v1 v2 v3=>by rcases v3 with v3|⟨v3,v4⟩;exact List.mem_append_left _ (hpe2 v v1 v2 (.inl v3));by_cases e:v=j;subst e;rw[v3];simp;exact List.mem_append_left _ (hpe2 v v1 v2 (.inr ⟨v3,by omega⟩))⟩⟩
   ·skip
    exact⟨(j+1,w2,es2),by show 1+nn-(j+1)<1+nn-j;omega,(a0R (a0J rfl (by omega)) rfl),⟨l2,by show i<j+1;omega,by show j+1<=1+nn;omega,o2,hU2.skip,by show es2.length+(i+1)<=i*6+(j+1);omega,hed2,fun v v1 v2 v3=>by rcases v3 with v3|⟨v3,v4⟩;exact hpe2 v v1 v2 (.inl v3);by_cases e:v=j;subst e;rw[hq v3]at h4;cases h4;exact hpe2 v v1 v2 (.inr ⟨v3,by omega⟩)⟩⟩
  ·replace h3:=of_decide_eq_false h3
   have hjn:j=1+nn:=by omega
   exact⟨(i+1,w2,es2),by show 1+nn-(i+1)<1+nn-i;omega,(b6Z (a0J rfl (by omega)) rfl rfl rfl),⟨l2,by show i+1<=1+nn;omega,o2,hU2.row,by show es2.length<=(i+1)*6;omega,hed2,fun v v1 v2 v3=>hpe2 v v1 v2 (by omega)⟩⟩
 ·replace hb1:=of_decide_eq_false hb1
  exact a0c rfl ⟨l1,w,es,rfl,o1.se,⟨by omega,by omega,by omega,fun e he=>⟨(hU.2 e he).1,hed e he⟩,hU.1⟩,fun v v1 v2=>hpe v v1 v2 (by have:=a4Y (ps:=ps) v1;omega)⟩
theorem b6N (h:D21 H a b c ps ls ms) {i:Nat} (h2:i<1000000):Con prog 61 [c2G nn kk a b c,ii (i:Nat)] H fun r H'=>H'=H/\∃x:Nat,r=ii (x:Nat)/\x<256:=by
 refine a0b mixed c2x (by kernel_rfl) rfl ?_
 refine a0a (h.one nn kk) ?_
 refine a0j b0C rfl rfl h.la rfl ?_
 refine a0a ⟨_,rfl⟩ ?_
 refine a0a ⟨_,rfl⟩ ?_
 refine a0f (b:=decide (((i:Nat):Int)<(ls.length:Nat))) rfl (fun hl=> ?_) (fun hl=> ?_)
 ·replace hl:=of_decide_eq_true hl
  have hl':i<ls.length:=by omega
  have hx:ls[i]? =some ls[i]:=List.getElem?_eq_getElem hl'
  have h8:=h.l8 _ (List.getElem_mem hl')
  refine a0m b0C rfl rfl rfl rfl (fun _=>rfl) h.la hx rfl (fun _=>rfl) fun _=> ?_
  simp only[cA,nA]
  refine a0a ⟨_,rfl⟩ ?_
  exact a0c (show D prog _ _=_ from a8D rfl h8) ⟨rfl,_,rfl,h8⟩
 ·replace hl:=of_decide_eq_false hl
  exact a0c rfl ⟨rfl,0,rfl,by decide⟩
theorem c2H {p:List Nat} {x:Nat}:a1D p++[((x:Nat):Int)]=a1D (p++[x]):=by unfold a1D;rw[List.map_append];rfl
set_option maxHeartbeats 1000000 in
theorem b6O (h:D21 H a b c ps ls ms) (hnn:nn<6):Con prog 14 [c2G nn kk a b c] H fun r H'=>PH.le H H'/\∃u p k,r= .tuple #[u,ii ((k:Nat):Int)]/\SI H' u (a1D p)/\PlD ps 4 p k/\p.length=1+nn:=by
 refine a0b mixed c2z (by kernel_rfl) rfl ?_
 have hn9:1+nn%9=1+nn:=by omega
 have hk4:=Nat.mod_lt kk (show 0<4 by decide)
 refine a0a (h.one nn kk) ?_
 refine a3w a0S (a:=0) rfl rfl rfl fun v1 H1 l1 o1 _=> ?_
 simp only[cA,nA]
 refine a0a ⟨_,rfl⟩ ?_
 refine a0o (α:=Nat×Value×List Nat) (fun⟨k,u,p⟩=>[ii (k:Nat),u,ii (p.length:Nat)]) (fun⟨k,u,p⟩=>fun H'=>PH.le H H'/\SO H H' 3 1 (fun z:Int=>[ii z]) u (a1D p)/\PlD ps (1+kk%4) p k/\p.length<=1+nn) (fun⟨k,u,p⟩=>1+nn-p.length) ((1,v1,[0])) rfl (⟨l1,o1,PlD.one (by omega),by show 1<=1+nn;omega⟩) fun⟨k,u,p⟩ H' hQ=> ?_
 simp only[cA,nA]
 obtain⟨l2,o2,hP,hpl⟩:=hQ
 have h2:=h.mono l2
 have hp0:=hP.p0
 refine a0q (a3r h2) rfl ?_
 simp only[cA,nA]
 rw[hn9]
 refine a0a ⟨_,rfl⟩ ?_
 refine a0a ⟨_,rfl⟩ ?_
 refine a0f (b:=decide (((p.length:Nat):Int)<((1+nn:Nat):Int))) rfl (fun h=> ?_) (fun h=> ?_)
 ·replace h:=of_decide_eq_true h
  have hlt:p.length<1+nn:=by omega
  refine a0q (a9p (i:=p.length) h2 hp0 (by omega)) rfl ?_
  simp only[cA,nA]
  have hpa:=a4Y (ps:=ps) hp0
  refine a0m a0S rfl rfl rfl rfl (fun _=>rfl) o2.se (b3P hpa) rfl (fun _=>rfl) fun _=> ?_
  simp only[cA,nA]
  refine⟨(fun l H''=>H''=H'/\∃q:Bool,l=[.bool q]/\(q=true->k<1+kk%4)),?_,?_⟩
  ·skip
   refine a0d (b6N (i:=p.length) h2 (by omega)) rfl ?_
   rintro _ H' ⟨rfl,x,rfl,hx⟩
   refine⟨fun h=>(nomatch h),?_⟩
   simp only[cA,nA]
   refine a0a ⟨_,rfl⟩ ?_
   refine a0f (b:=_) rfl (fun h5=> ?_) (fun h5=> ?_)
   ·skip
    refine a0a ⟨_,rfl⟩ ?_
    exact⟨rfl,decide (((k:Nat):Int)<((1+kk%4:Nat):Int)),a1R (by show Value.bool (decide (((k:Nat):Int)<intOf (D prog _ (.op2 .add .i64 _ _))))=_;rw[c2F (m:=4) (mi:=4) rfl rfl (by decide) (by decide)];rfl),fun e=>by have:=of_decide_eq_true e;omega⟩
   ·skip
    exact⟨rfl,false,rfl,fun e=>nomatch e⟩
  rintro _ H' _ ⟨rfl,q,rfl,hq⟩
  simp only[cA,nA]
  refine⟨(fun l H''=>H''=H'/\∃x k':Nat,l=[ii (x:Nat),ii (k':Nat)]/\PlD ps (1+kk%4) (p++[x]) k'),?_,?_⟩
  ·skip
   refine a0a ⟨_,rfl⟩ ?_
   refine a0f (b:=q) rfl (fun h5=> ?_) (fun h5=> ?_)
   ·skip
    refine a0a ⟨_,rfl⟩ ?_
    exact⟨rfl,k,k+1,a0R rfl (a0J rfl (by have:=hP.km;omega)),hP.new (hq h5)⟩
   ·skip
    exact⟨rfl,_,k,rfl,hP.old⟩
  rintro _ H' _ ⟨rfl,x,k',rfl,hP'⟩
  simp only[cA,nA]
  refine a0P a0S rfl rfl rfl (fun _=>rfl) (fun _=>rfl) l2 o2 (by rw[a2S];omega) rfl (fun _=>rfl) rfl fun q3 u3 H3 l3 o3=> ?_
  simp only[cA,nA]
  rw[c2H]at o3
  exact⟨(k',u3,p++[x]),by show 1+nn-(p++[x]).length<1+nn-p.length;rw[List.length_append];simp only[List.length_cons,List.length_nil];omega,(b2K rfl rfl (by rw[a0J rfl (by omega)];show ii _=ii _;rw[List.length_append];rfl)),⟨l3,o3,hP',by show(p++[x]).length<=1+nn;rw[List.length_append];simp only[List.length_cons,List.length_nil];omega⟩⟩
 ·replace h:=of_decide_eq_false h
  exact a0c rfl ⟨l2,u,p,k,rfl,o2.se,⟨hP.k1,by have:=hP.km;omega,hP.p0,hP.lt,hP.use,hP.can,hP.len,hP.par⟩,by omega⟩
end
end Go.Proofs.YtlmgkkjgdapnpaaGreatDoor
