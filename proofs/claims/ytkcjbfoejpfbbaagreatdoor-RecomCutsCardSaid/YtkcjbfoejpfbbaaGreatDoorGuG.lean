/- Chapter 30: counting and unranking, in plain terms. -/
import Derived.Test.YtkcjbfoejpfbbaaGreatDoorGuD
import Derived.Test.YtkcjbfoejpfbbaaGreatDoorGdG
import Derived.Test.YtkcjbfoejpfbbaaGreatDoorGdI
namespace Go.Proofs.YtkcjbfoejpfbbaaGreatDoor
open Go.Proofs.Tryz
open Go.RowKit Go.RX Go.GS
open Go.WD (BP a5x)
set_option maxRecDepth 100000
section
variable {s:Nat} {es:List (Nat×Nat)} {t S:List Int} {k:Nat} {y:Nat×(Nat×Nat)}
theorem a9v (s:Nat):∀(es:List (Nat×Nat)) (i:Nat),(a1A s i es).map (·.2)=es.filter (inB s)
 |[],_=>rfl
 |e::r,i=>by
  unfold a1A
  by_cases h:(bit s e.1&&bit s e.2)=true
  ·rw[if_pos h,List.filter_cons_of_pos (by unfold inB;exact h),List.map_cons,a9v s r (i+1)]
  ·rw[if_neg h,List.filter_cons_of_neg (by unfold inB;exact h),a9v s r (i+1)]
theorem d1s (s:Nat):∀(es:List (Nat×Nat)) (i:Nat) (y:Nat×(Nat×Nat)),y∈a1A s i es->i<=y.1:=fun es i y h=>(a4F es i y h).1
theorem a5S (s:Nat):∀(es:List (Nat×Nat)) (i:Nat),(a1A s i es).Pairwise (fun a b=>a.1<b.1)
 |[],_=>List.Pairwise.nil
 |e::r,i=>by
  unfold a1A
  split
  ·refine List.pairwise_cons.2 ⟨fun y hy=> ?_,a5S s r (i+1)⟩
   have:=d1s s r (i+1) y hy
   show i<y.1;omega
  ·exact a5S s r (i+1)
theorem b2P (h:(a1A s 0 es)[k]? =some y) {x:Nat×(Nat×Nat)} (hx:x∈(a1A s 0 es).take k):x.1<y.1:=by
 obtain⟨i,hi⟩:=List.mem_iff_getElem?.1 hx
 have hik:i<k:=by
  have:=(List.getElem?_eq_some_iff.1 hi).1
  simp at this;omega
 rw[List.getElem?_take,if_pos hik]at hi
 obtain⟨h1,rfl⟩:=List.getElem?_eq_some_iff.1 hi
 obtain⟨h2,rfl⟩:=List.getElem?_eq_some_iff.1 h
 exact List.pairwise_iff_getElem.1 (a5S s es 0) i k h1 h2 hik
theorem c2B (h:(a1A s 0 es)[k]? =some y) {x:Nat×(Nat×Nat)} (hx:x∈(a1A s 0 es).drop (k+1)):y.1<x.1:=by
 obtain⟨i,hi⟩:=List.mem_iff_getElem?.1 hx
 rw[List.getElem?_drop]at hi
 obtain⟨h1,rfl⟩:=List.getElem?_eq_some_iff.1 hi
 obtain⟨h2,rfl⟩:=List.getElem?_eq_some_iff.1 h
 exact List.pairwise_iff_getElem.1 (a5S s es 0) k _ h2 h1 (by omega)
structure Dec (s:Nat) (es:List (Nat×Nat)) (k:Nat) (t S:List Int):Prop where
 eq:(((a1A s 0 es).take k).filter fun y=>decide (((y.1:Nat):Int)∈t)).map (fun y=>((y.1:Nat):Int))=t
 sub:∀i∈S,∃y∈(a1A s 0 es).take k,((y.1:Nat):Int)=i
 cov:∀y∈(a1A s 0 es).take k,((y.1:Nat):Int)∈t\/((y.1:Nat):Int)∈S
theorem Dec.zero (s:Nat) (es:List (Nat×Nat)):Dec s es 0 [] []:=⟨rfl,(fun i h=>by cases h),(fun y h=>by cases h)⟩
theorem Dec.mem (h:Dec s es k t S) {i:Int} (hi:i∈t):∃y∈(a1A s 0 es).take k,((y.1:Nat):Int)=i:=by
 rw[<-h.eq]at hi
 obtain⟨y,hy,rfl⟩:=List.mem_map.1 hi
 exact⟨y,(List.mem_filter.1 hy).1,rfl⟩
theorem Dec.lt (h:Dec s es k t S) (hy:(a1A s 0 es)[k]? =some y) {i:Int} (hi:i∈t\/i∈S):i<((y.1:Nat):Int):=by
 rcases hi with hi|hi
 ·obtain⟨x,hx,rfl⟩:=h.mem hi
  have:=b2P hy hx;omega
 ·obtain⟨x,hx,rfl⟩:=h.sub i hi
  have:=b2P hy hx;omega
theorem Dec.off (h:Dec s es k t S) (hy:(a1A s 0 es)[k]? =some y):((y.1:Nat):Int)∉t/\((y.1:Nat):Int)∉S:=⟨fun hh=>by have:=h.lt hy (.inl hh);omega,fun hh=>by have:=h.lt hy (.inr hh);omega⟩
theorem a8r (h:Dec s es k t S) (hy:(a1A s 0 es)[k]? =some y):((a1A s 0 es).take k).filter (fun x=>decide (((x.1:Nat):Int)∈t++[((y.1:Nat):Int)]))=((a1A s 0 es).take k).filter fun x=>decide (((x.1:Nat):Int)∈t):=by
 refine List.filter_congr fun x hx=> ?_
 have:=b2P hy hx
 rw[decide_eq_decide,List.mem_append,List.mem_singleton]
 exact⟨fun hh=>hh.elim id fun e=>by omega,.inl⟩
theorem Dec.yes (h:Dec s es k t S) (hy:(a1A s 0 es)[k]? =some y):Dec s es (k+1) (t++[((y.1:Nat):Int)]) S:=by
 refine⟨?_,fun i hi=> ?_,fun x hx=> ?_⟩
 ·rw[take_snoc hy,List.filter_append,List.map_append,a8r h hy,h.eq]
  simp
 ·obtain⟨x,hx,e⟩:=h.sub i hi
  exact⟨x,by rw[take_snoc hy];simp[hx],e⟩
 ·rw[take_snoc hy,List.mem_append,List.mem_singleton]at hx
  rcases hx with hx|rfl
  ·rcases h.cov x hx with h1|h1
   ·exact .inl (by simp[h1])
   ·exact .inr h1
  ·exact .inl (by simp)
theorem Dec.no (h:Dec s es k t S) (hy:(a1A s 0 es)[k]? =some y):Dec s es (k+1) t (S++[((y.1:Nat):Int)]):=by
 refine⟨?_,fun i hi=> ?_,fun x hx=> ?_⟩
 ·rw[take_snoc hy,List.filter_append,List.map_append,h.eq]
  simp[(h.off hy).1]
 ·rcases List.mem_append.1 hi with hi|hi
  ·obtain⟨x,hx,e⟩:=h.sub i hi
   exact⟨x,by rw[take_snoc hy];simp[hx],e⟩
  ·rw[List.mem_singleton]at hi
   exact⟨y,by rw[take_snoc hy];simp,hi.symm⟩
 ·rw[take_snoc hy,List.mem_append,List.mem_singleton]at hx
  rcases hx with hx|rfl
  ·rcases h.cov x hx with h1|h1
   ·exact .inl h1
   ·exact .inr (by simp[h1])
  ·exact .inr (by simp)
def opn (s:Nat) (es:List (Nat×Nat)) (k:Nat):List (Nat×Nat):=((a1A s 0 es).drop k).map (·.2)
theorem b5w (hy:(a1A s 0 es)[k]? =some y):opn s es k=y.2::opn s es (k+1):=by
 obtain⟨h,rfl⟩:=List.getElem?_eq_some_iff.1 hy
 unfold opn;rw[List.drop_eq_getElem_cons h];rfl
theorem c5P (hy:(a1A s 0 es)[k]? =some y):Ed es ((y.1:Nat):Int)=y.2:=by
 have:=(a5f hy).1
 unfold Ed
 rw[List.getD_eq_getElem?_getD,Int.toNat_natCast,this];rfl
theorem c2C (h:Dec s es k t S) (hy:(a1A s 0 es)[k]? =some y):wE s es (t++[((y.1:Nat):Int)]) es.length=etl es t++[y.2]:=by
 have hk:=(List.getElem?_eq_some_iff.1 hy).1
 unfold wE
 rw[List.take_of_length_le (a1Y s es 0)]
 conv=>lhs;rw[<-List.take_append_drop (k+1) (a1A s 0 es)]
 rw[List.filter_append,take_snoc hy,List.filter_append,a8r h hy]
 have h2:((a1A s 0 es).drop (k+1)).filter (fun x=>decide (((x.1:Nat):Int)∈t++[((y.1:Nat):Int)]))=[]:=by
  rw[List.filter_eq_nil_iff]
  intro x hx hh
  have h3:=c2B hy hx
  rw[decide_eq_true_eq,List.mem_append,List.mem_singleton]at hh
  rcases hh with hh|hh
  ·have:=h.lt hy (.inl hh);omega
  ·omega
 rw[h2,List.append_nil,List.map_append]
 have h4:(((a1A s 0 es).take k).filter fun x=>decide (((x.1:Nat):Int)∈t)).map (·.2)=etl es t:=by
  conv=>rhs;unfold etl;rw[<-h.eq]
  rw[List.map_map]
  refine List.map_congr_left fun x hx=> ?_
  obtain⟨i,hi⟩:=List.mem_iff_getElem?.1 (List.mem_of_mem_take (List.mem_filter.1 hx).1)
  exact(c5P hi).symm
 rw[h4];simp
theorem c2D {L:List (Nat×Nat)}:∀{e:Nat×Nat},e∈L->lab L e.1=lab L e.2:=by
 induction L using a2l with
 |nil=>intro e h;cases h
 |snoc L e0 ih=>
  intro e he
  rw[a2c]
  rcases List.mem_append.1 he with he|he
  ·unfold a1r;rw[ih he]
  ·rw[List.mem_singleton]at he;subst he
   unfold a1r
   by_cases h:lab L e.1<=lab L e.2
   ·rw[Nat.max_eq_right h,Nat.min_eq_left h,if_pos rfl]
    split
    ·rfl
    ·rfl
   ·rw[Nat.max_eq_left (by omega),Nat.min_eq_right (by omega),if_pos rfl]
    split
    ·rfl
    ·rfl
theorem d4I (h:Dec s es k t S) (hy:(a1A s 0 es)[k]? =some y) {f:Nat->Nat} (hf:f=lab (etl es t++[y.2])):oE s es S f es.length=(opn s es (k+1)).filter fun e=>f e.1 !=f e.2:=by
 unfold oE opn
 rw[List.take_of_length_le (a1Y s es 0)]
 conv=>lhs;rw[<-List.take_append_drop (k+1) (a1A s 0 es)]
 rw[List.filter_append,List.map_append]
 have h1:((a1A s 0 es).take (k+1)).filter (fun x=> !decide (((x.1:Nat):Int)∈S)&& !decide (f x.2.1=f x.2.2))=[]:=by
  rw[List.filter_eq_nil_iff]
  intro x hx
  rw[take_snoc hy,List.mem_append,List.mem_singleton]at hx
  have:((x.1:Nat):Int)∈S\/f x.2.1=f x.2.2:=by
   rcases hx with hx|rfl
   ·rcases h.cov x hx with hh|hh
    ·refine .inr ?_
     rw[hf]
     refine c2D (List.mem_append_left _ ?_)
     obtain⟨i,hi⟩:=List.mem_iff_getElem?.1 (List.mem_of_mem_take hx)
     rw[<-c5P hi]
     exact List.mem_map.2 ⟨_,hh,rfl⟩
    ·exact .inl hh
   ·exact .inr (by rw[hf];exact c2D (by simp))
  rcases this with hh|hh<;>simp[hh]
 rw[h1,List.map_nil,List.nil_append,List.filter_map]
 congr 1
 refine List.filter_congr fun x hx=> ?_
 have h3:=c2B hy hx
 have h4:((x.1:Nat):Int)∉S:=fun hh=>by have:=h.lt hy (.inr hh);omega
 simp[h4,Function.comp,bne]
 rfl
def a7o (s:Nat) (es:List (Nat×Nat)) (t:List Int) (k:Nat):Int:=KK (opn s es k) s (lab (etl es t))
theorem a4G (s:Nat) (es:List (Nat×Nat)):a7i s es [] []=a7o s es [] 0:=by
 have hw:wE s es [] es.length=[]:=by
  unfold wE
  rw[List.filter_eq_nil_iff.2 (fun x _=>by simp)];rfl
 have ha:Acy (wE s es [] es.length) (wE s es [] es.length).length:=by rw[hw];exact fun i e hi=>by cases hi
 unfold a7i a7o
 rw[if_pos ha,hw]
 have:oE s es [] (lab []) es.length=(opn s es 0).filter fun e=>lab [] e.1 !=lab [] e.2:=by
  unfold oE opn
  rw[List.take_of_length_le (a1Y s es 0),List.drop_zero,List.filter_map]
  congr 1
 rw[this,b1r]
 rfl
theorem c5Q (s:Nat) (es:List (Nat×Nat)):a7o s es [] 0=trN es s [] 0:=by
 unfold a7o trN opn inE
 rw[List.drop_zero,List.drop_zero,a9v]
theorem c5R (hs:s<M64) (h0:s≠0) (hb:Beg es s t) (h:Dec s es k t S) (hy:(a1A s 0 es)[k]? =some y):
  (lab (etl es t) y.2.1=lab (etl es t) y.2.2/\a7i s es (t++[((y.1:Nat):Int)]) S=0/\a7o s es t k=a7o s es t (k+1))\/(lab (etl es t) y.2.1≠lab (etl es t) y.2.2/\a7i s es (t++[((y.1:Nat):Int)]) S=a7o s es (t++[((y.1:Nat):Int)]) (k+1)/\a7o s es t k=a7o s es t (k+1)+a7o s es (t++[((y.1:Nat):Int)]) (k+1)):=by
 have hya:=a5f hy
 by_cases hl:lab (etl es t) y.2.1=lab (etl es t) y.2.2
 ·refine .inl ⟨hl,?_,?_⟩
  ·refine c7t ?_
   rw[c2C h hy]
   exact⟨(etl es t).length,y.2,by simp,by rw[List.take_left];exact hl⟩
  ·unfold a7o;rw[b5w hy,c2j hl]
 ·have he:etl es (t++[((y.1:Nat):Int)])=etl es t++[y.2]:=by rw[a2d,c5P hy]
  refine .inr ⟨hl,?_,?_⟩
  ·have ha:Acy (wE s es (t++[((y.1:Nat):Int)]) es.length) (wE s es (t++[((y.1:Nat):Int)]) es.length).length:=by
    rw[c2C h hy,List.length_append]
    exact hb.acy.snoc hl
   unfold a7i a7o
   rw[if_pos ha,c2C h hy,d4I h hy rfl,b1r,he]
  ·unfold a7o
   rw[b5w hy,c7g (Lb.lab _) hs (a3F hb.inn _ hya.2.1) (a3F hb.inn _ hya.2.2) (c2k hs h0) hl,he,a2c]
theorem d6u {E:List (Nat×Nat)} {f:Nat->Nat} (h:E.length<=200):Sm (KK E s f):=by
 unfold KK
 rw[<-b2I]
 refine d4x (d4H fun i j=>Nat.le_trans (a6Y _ _ _ i j) h) ?_
 unfold b2G
 exact Nat.le_trans (List.length_filter_le _ _) (by simp)
theorem d1t (k:Nat):(opn s es k).length<=es.length:=by
 have:=a1Y s es 0
 unfold opn
 simp only[List.length_map,List.length_drop];omega
theorem b5x (hl:es.length<=200) (k:Nat):Sm (a7o s es t k):=d6u (Nat.le_trans (d1t k) hl)
theorem d1u (hs:s<M64) (h0:s≠0) (hb:Beg es s t) (hk:(a1A s 0 es).length<=k) (h:0<a7o s es t k):TreeOk es s t:=by
 refine d0Q hs h0 hb (Nat.le_refl _) ?_
 unfold trN
 rw[b2H (Nat.le_refl _)]
 unfold a7o opn at h
 rw[List.drop_eq_nil_of_le hk]at h
 exact h
theorem c5S (hs:s<M64) (h0:s≠0) (hC:Cn es s):0<a7i s es [] []:=by
 rw[a4G,c5Q]
 exact a9q hs h0 _ 0 [] rfl (Beg.nil es s) (fun i h=>by cases h) (Spn.start hC)
end
end Go.Proofs.YtkcjbfoejpfbbaaGreatDoor
/- Chapter 30: Count and Unrank. -/
namespace Go.Proofs.YtkcjbfoejpfbbaaGreatDoor
open Go.Proofs.Tryz
open Go.RowKit Go.RX Go.GS
open Go.WD (BP a5x wd iw rs toI HM sgI)
set_option maxRecDepth 100000
section
variable {H K X B H':PH} {e:TypeId} {sz n r:Nat} {v m:Value} {xs:List Value} {E:Array MapEntry} {c:Nat} {ob:Obj} {z:Int} {S:List Int}
theorem d1v (hr:H r=some (.map E c)) (h:Sl H sz v n xs):Sl (H.put r ob) sz v n xs:=by
 obtain⟨h1,a,c',h2,h3,h4,h5⟩:=h
 refine⟨h1,a,c',h2,h3,h4,h5.imp id ?_⟩
 rintro⟨b,o,cs,T,fz,g1,g2,g3⟩
 exact⟨b,o,cs,T,fz,g1,by rw[PH.put_ne _ _ (fun e=>by subst e;rw[hr]at g2;cases g2)];exact g2,g3⟩
theorem c2E (hr:H r=some (.map E c)) (h:Lw H v z):Lw (H.put r ob) v z:=by
 obtain⟨w,h1,l,⟨h2,h3⟩,h4⟩:=h
 exact⟨w,h1,l,⟨d1v hr h2,h3⟩,h4⟩
theorem b5y (hr:X r=some (.map E c)) (h:OwS K X e sz v n xs):OwS (K.put r ob) (X.put r ob) e sz v n xs:=by
 obtain⟨h1,h2|⟨g,cap,cur,h2,h3,h4,h5⟩⟩:=h
 ·exact⟨h1,.inl h2⟩
 ·have hne:g≠r:=fun e=>by subst e;rw[hr]at h4;cases h4
  exact⟨h1,.inr ⟨g,cap,cur,h2,by rw[PH.put_ne _ _ hne];exact h3,by rw[PH.put_ne _ _ hne];exact h4,h5⟩⟩
theorem c5T {K' X':PH} (h:OwS K X e sz v n xs) (hX:PH.le X X') (hd:∀k,X k≠none->K k=none->K' k=none):OwS K' X' e sz v n xs:=by
 obtain⟨h1,h2|⟨g,cap,cur,h2,h3,h4,h5⟩⟩:=h
 ·exact⟨h1,.inl h2⟩
 ·exact⟨h1,.inr ⟨g,cap,cur,h2,hd g (by rw[h4];simp) h3,hX _ _ h4,h5⟩⟩
theorem b5z (h:MBO B H (.map (some r)) S) (hr:H' r=H r):MBO B H' (.map (some r)) S:=by
 obtain⟨h0,r',es,c,h1,h4,h2,h3⟩:=h
 obtain rfl:r=r':=by injection h1 with h1;injection h1
 exact⟨h0,r,es,c,rfl,h4,hr.trans h2,h3⟩
theorem c2F (h:MBO B H (.map (some r)) S):B r=none/\∃E c,H r=some (.map E c):=by
 obtain⟨h0,r',es,c,h1,h4,h2,h3⟩:=h
 obtain rfl:r=r':=by injection h1 with h1;injection h1
 exact⟨h4,_,_,h2⟩
end
structure Un (B K X:PH) (r1 r2:Nat) (lf vt:Value) (t S t0:List Int) (z:Int):Prop where
 ne:r1≠r2
 bk:PH.le B K
 kx:PH.le K X
 so:SO K X 3 1 (fun z:Int=>[ii z]) vt t0
 w:MBO B K (.map (some r1)) t
 o:MBO B K (.map (some r2)) S
 lw:Lw K lf z
section
variable {B K X K' X':PH} {r1 r2:Nat} {lf vt:Value} {t S t0 t' S':List Int} {z:Int} {ob:Obj}
theorem Un.grow (h:Un B K X r1 r2 lf vt t S t0 z) (a:PH.le K K') (b:PH.le K' X') (c:PH.le X X') (d:∀k,X k≠none->K k=none->K' k=none):Un B K' X' r1 r2 lf vt t S t0 z:=
 ⟨h.ne,h.bk.trans a,b,c5T h.so c d,h.w.mono a,h.o.mono a,h.lw.mono a⟩
theorem le_put2 (h:PH.le K X) (r:Nat) (ob:Obj):PH.le (K.put r ob) (X.put r ob):=fun k o hk=>by
 by_cases e:k=r
 ·subst e;rw[PH.put_self]at hk⊢;exact hk
 ·rw[PH.put_ne _ _ e]at hk⊢;exact h _ _ hk
theorem b5A {B K:PH} {r:Nat} (h:PH.le B K) (hr:B r=none) (ob:Obj):PH.le B (K.put r ob):=fun k o hk=>by
 rw[PH.put_ne _ _ (fun e=>by subst e;rw[hr]at hk;cases hk)];exact h _ _ hk
theorem Un.put1 (h:Un B K X r1 r2 lf vt t S t0 z) (hm:MBO B (X.put r1 ob) (.map (some r1)) t'):Un B (K.put r1 ob) (X.put r1 ob) r1 r2 lf vt t' S t0 z:=by
 obtain⟨hB,E,c,hK⟩:=c2F h.w
 have hX:=h.kx _ _ hK
 exact⟨h.ne,b5A h.bk hB ob,le_put2 h.kx _ _,b5y hX h.so,b5z hm (by rw[PH.put_self,PH.put_self]),b5z h.o (PH.put_ne _ _ h.ne.symm),c2E hK h.lw⟩
theorem Un.put2 (h:Un B K X r1 r2 lf vt t S t0 z) (hm:MBO B (X.put r2 ob) (.map (some r2)) S'):Un B (K.put r2 ob) (X.put r2 ob) r1 r2 lf vt t S' t0 z:=by
 obtain⟨hB,E,c,hK⟩:=c2F h.o
 have hX:=h.kx _ _ hK
 exact⟨h.ne,b5A h.bk hB ob,le_put2 h.kx _ _,b5y hX h.so,b5z h.w (PH.put_ne _ _ h.ne),b5z hm (by rw[PH.put_self,PH.put_self]),c2E hK h.lw⟩
end
theorem c2G (z:Int):∃m e,b0u z= .tuple #[wd m,ii e]:=by
 unfold b0u
 split
 ·exact⟨_,_,rfl⟩
 ·exact⟨_,_,rfl⟩
section
variable {H:PH} {n s:Nat} {w:Value} {es:List (Nat×Nat)}
theorem c5U (hw:SG H w es) (hg:GV n es) (h0:s≠0/\s<2^n) (hs:s<M64) (hT:Tb H):Con prog 33 [gv n w,GS.uv s] H fun u H'=>PH.le H H'/\u=b0u (a7i s es [] []):=by
 refine a0d a0r c0Q (by kernel_rfl) rfl ?_
 refine a0a (a1m hw) ?_
 refine a0J (a9n hw hg hs) rfl fun H1 l1=> ?_
 simp only[cA,nA]
 rw[if_pos h0]
 refine a0a ⟨_,rfl⟩ ?_
 refine a0y rfl ?_
 refine a0h (a9u (hw.mono l1) hg hs h0.1 (hT.mono l1) (MB.none _) (MB.none _)) rfl ?_
 rintro v3 H2 ⟨l2,w3⟩
 refine⟨fun h=>(nomatch h),?_⟩
 simp only[cA,nA]
 refine a0h (c2s w3) rfl ?_
 rintro v4 H3 ⟨l3,hv4⟩
 refine⟨fun h=>(nomatch h),?_⟩
 simp only[cA,nA]
 obtain⟨m,e,hme⟩:=c2G (a7i s es [] [])
 rw[hme]at hv4
 subst hv4
 refine a0a ⟨_,rfl,by simp⟩ ?_
 refine a0a ⟨_,rfl,by simp⟩ ?_
 refine a0a (b2A m) ?_
 exact a0f rfl ⟨(l1.trans l2).trans l3,hme.symm⟩
theorem d1w {t S:List Int} {k:Nat} {y:Nat×(Nat×Nat)} (hB:Beg es s t) (hD:Dec s es k t S) (hy:(a1A s 0 es)[k]? =some y) (hl:lab (etl es t) y.2.1≠lab (etl es t) y.2.2):Beg es s (t++[((y.1:Nat):Int)]):=by
 have hya:=a5f hy
 have he:=c5P hy
 refine hB.add (fun i hi=>hD.lt hy (.inl hi)) (List.getElem?_eq_some_iff.1 hya.1).1 ?_ (by rw[he];exact hl)
 rw[he];unfold inB;rw[hya.2.1,hya.2.2];rfl
theorem c5V {gb:Nat} {X:PH} {o:Oper} {x:Operand} {T:TypeId} {fz:Nat×Nat} (ho:o.op= .load 38 x) (hx:a0g [x] [.pointer (some ⟨gb,0,none⟩)] x= .pointer (some ⟨gb,0,none⟩)) (hX:X gb=some (.cells #[ii n,w] T fz)):Rds prog o [.pointer (some ⟨gb,0,none⟩)] X (gv n w):=by
 have ha:a0I prog 38=true:=by kernel_rfl
 have hc:(prog).cellsOf 38=2:=by kernel_rfl
 have h:=a2I ho hx hX (T:=38) (by kernel_rfl) (by rw[hc];exact Nat.le_refl 2) (fun h=>by rw[ha]at h;cases h)
 rw[ha,hc]at h
 exact h
theorem c2H {ρ:List Value} {x:SV} {v:Value} (h:D prog ρ x=v) (hc:v.cells= #[v]):Value.tuple #[D prog ρ (.cell x 0 0 noI),ii 0]= .tuple #[v,ii 0]:=by rw[a3W h hc]
theorem d4J {z:Int} (h:0<=z):¬sgI z 0<0:=by
 unfold sgI;split
 ·omega
 ·split<;>omega
theorem sgI_lt0 {x y:Int}:sgI x y<0↔x<y:=by
 unfold sgI;split
 ·rename_i h;exact⟨fun _=>h,fun _=>by decide⟩
 ·rename_i h;split
  ·exact⟨fun hh=>by omega,fun hh=>by omega⟩
  ·exact⟨fun hh=>by omega,fun hh=>by omega⟩
theorem c5W {z0:Nat} (hw:SG H w es) (hg:GV n es) (h0:s≠0/\s<2^n) (hs:s<M64) (hT:Tb H) (hz0:0<=toI z0) (hz1:toI z0<a7i s es [] []):
  Con prog 35 [gv n w,GS.uv s,wd z0] H fun u H'=>PH.le H H'/\∃v t,u= .tuple #[v,ii 0]/\SI H' v t/\TreeOk es s t:=by
 refine a0d a0r d1c (by kernel_rfl) rfl ?_
 have hwc:=hw.cells
 have hw1:=a0W hw
 have h64:=hg.n64
 have hlen:=hg.len
 have he64:∀e∈es,e.1<=64/\e.2<=64:=fun e he=>by have:=hg.ed e he;omega
 have hil:(a1A s 0 es).length<=200:=Nat.le_trans (a1Y s es 0) hlen
 refine a0a (a1m hw) ?_
 refine a2u (cs:= #[ii n,w]) rfl fun gb hgb=> ?_
 simp only[cA,nA]
 refine a0a ⟨rfl,fun c hc=>by simp[D,Value.cells,GS.uv]at hc;subst hc;rfl⟩ ?_
 refine a2u (cs:= #[GS.uv s]) rfl fun sb hsb=> ?_
 simp only[cA,nA]
 have hbs:gb≠sb:=fun e=>by subst e;rw[PH.put_self]at hsb;cases hsb
 have m1:PH.le H ((H.put gb (.cells #[ii n,w] 38 (0,0))).put sb (.cells #[GS.uv s] 34 (0,0))):=(PH.le_put hgb _).trans (PH.le_put hsb _)
 have b1:((H.put gb (.cells #[ii n,w] 38 (0,0))).put sb (.cells #[GS.uv s] 34 (0,0))) gb=some (.cells #[ii n,w] 38 (0,0)):=by rw[PH.put_ne _ _ hbs,PH.put_self]
 have b2:((H.put gb (.cells #[ii n,w] 38 (0,0))).put sb (.cells #[GS.uv s] 34 (0,0))) sb=some (.cells #[GS.uv s] 34 (0,0)):=PH.put_self _ _ _
 generalize (H.put gb (.cells #[ii n,w] 38 (0,0))).put sb (.cells #[GS.uv s] 34 (0,0))=H1 at m1 b1 b2⊢
 refine a0a (b2A z0) ?_
 have ldG:∀{X:PH},PH.le H1 X->∀{o:Oper} {x:Operand},o.op= .load 38 x->a0g [x] [.pointer (some ⟨gb,0,none⟩)] x= .pointer (some ⟨gb,0,none⟩)->Rds prog o [.pointer (some ⟨gb,0,none⟩)] X (gv n w):=fun hX _ _ ho hx=>c5V ho hx (hX _ _ b1)
 refine a0i ((ldG (PH.le.refl _) rfl rfl)) rfl ?_
 simp only[cA,nA]
 refine a0C a2C rfl rfl b2 rfl rfl ?_
 simp only[cA,nA]
 refine a0J (a9n (hw.mono m1) hg hs) rfl fun H2 l2=> ?_
 simp only[cA,nA]
 rw[if_pos h0]
 refine a0a ⟨_,rfl⟩ ?_
 refine a0y rfl ?_
 refine a0h (a7e z0) rfl ?_
 rintro v8 H3 ⟨l3,w8⟩
 refine⟨fun h=>(nomatch h),?_⟩
 simp only[cA,nA]
 obtain⟨x8,rfl⟩:=a7u w8
 refine a0a w8.rq ?_
 refine a0h (a7d w8) rfl ?_
 rintro _ _ ⟨rfl,rfl⟩
 refine⟨fun _=>PH.le.refl _,?_⟩
 simp only[cA,nA]
 refine a0a ⟨_,rfl⟩ ?_
 refine a0y (by show Value.bool (decide (sgI (toI z0) 0<0))=_;rw[decide_eq_false (d4J hz0)]) ?_
 have l13:=l2.trans l3
 refine a0i ((ldG l13 rfl rfl)) rfl ?_
 simp only[cA,nA]
 refine a0C a2C rfl rfl (l13 _ _ b2) rfl rfl ?_
 simp only[cA,nA]
 refine a0h (a9u (hw.mono (m1.trans l13)) hg hs h0.1 (hT.mono (m1.trans l13)) (MB.none _) (MB.none _)) rfl ?_
 rintro v12 H4 ⟨l4,w12⟩
 refine⟨fun _=>l4,?_⟩
 simp only[cA,nA]
 refine a0h (b5o (w8.mono l4) w12 (Sm.lm (by rw[Sm];have:=b5x (s:=s) (t:=[]) hlen 0;rw[<-a4G]at this;unfold Sm at this;omega)) (Sm.lm (by rw[a4G];exact b5x hlen 0))) rfl ?_
 rintro _ H5 ⟨l5,rfl⟩
 refine⟨fun _=>l5,?_⟩
 simp only[cA,nA]
 refine a0a ⟨_,rfl⟩ ?_
 refine a0y (by show Value.bool (decide (sgI (toI z0) (a7i s es [] [])≥0))=_;rw[decide_eq_false (by have:=sgI_lt0.2 hz1;omega)]) ?_
 have l15:=l13.trans (l4.trans l5)
 refine a0s (a3S rfl) rfl ?_
 rintro _ _ ⟨r1,hr1,rfl,rfl⟩
 refine⟨fun h=>(nomatch h),?_⟩
 simp only[cA,nA]
 refine a0s (a3S rfl) rfl ?_
 rintro _ _ ⟨r2,hr2,rfl,rfl⟩
 refine⟨fun h=>(nomatch h),?_⟩
 simp only[cA,nA]
 refine a0a ⟨rfl,fun c hc=>by simp[D,Value.cells]at hc;subst hc;rfl⟩ ?_
 refine a0a ⟨rfl,fun c hc=>by simp[D,Value.cells]at hc;subst hc;rfl⟩ ?_
 have hne:r1≠r2:=fun e=>by subst e;rw[PH.put_self]at hr2;cases hr2
 have hr2':H5 r2=none:=by rwa[PH.put_ne _ _ hne.symm]at hr2
 have m5:PH.le H5 ((H5.put r1 (.map #[] 0)).put r2 (.map #[] 0)):=(PH.le_put hr1 _).trans (PH.le_put hr2 _)
 have hU:Un H5 ((H5.put r1 (.map #[] 0)).put r2 (.map #[] 0)) ((H5.put r1 (.map #[] 0)).put r2 (.map #[] 0)) r1 r2 (lv x8) (.slice none 0 0) [] [] [] (toI z0):=⟨hne,m5,PH.le.refl _,SO.nil _ _ _ _ _,⟨List.nodup_nil,r1,[],0,rfl,hr1,by rw[PH.put_ne _ _ hne,PH.put_self];rfl,rfl⟩,⟨List.nodup_nil,r2,[],0,rfl,hr2',by rw[PH.put_self];rfl,rfl⟩,(w8.mono (l4.trans l5)).mono m5⟩
 generalize (H5.put r1 (.map #[] 0)).put r2 (.map #[] 0)=H6 at m5 hU⊢
 have l16:=l15.trans m5
 refine a0i ((ldG l16 rfl rfl)) rfl ?_
 simp only[cA,nA]
 refine a0C a2C rfl rfl (l16 _ _ b2) rfl rfl ?_
 simp only[cA,nA]
 refine a0h (a9t (H:=H6) hwc hw1) rfl ?_
 rintro _ _ ⟨bi,ji,hbj,rfl,hd1,rfl⟩
 refine⟨fun h=>(nomatch h),?_⟩
 simp only[cA,nA]
 refine b3f (X:=H6) (K:=b1x bi ji (ii n) w 38 s) (Ro:=H5) (fun pre vals X'=>PH.le H5 X'/\∃K lf vt t S z,vals=[lf,vt]/\Un H5 K X' r1 r2 lf vt t S t z/\Dec s es pre.length t S/\Beg es s t/\0<=z/\z<a7o s es t pre.length) (fun _ _ _=>False) (a4z hs hbj he64 (by omega) (hw.mono (m1.trans l15)) hwc) a4y hd1 rfl (fun _ _ _ h=>h.1) ⟨m5,H6,lv x8,_,[],[],_,rfl,hU,Dec.zero s es,Beg.nil es s,hz0,by rw[List.length_nil,<-a4G];exact hz1⟩ ?_ ?_ ?_
 ·rintro pre xs vals X2 ⟨y,hy,rfl⟩ _ ⟨n1,K,lf,vt,t,S,z,rfl,hU,hD,hB,z1,z2⟩
  refine⟨rfl,?_⟩
  simp only[cA,nA]
  have hoff:=hD.off hy
  have hya:=a5f hy
  have hbK:=hU.bk.trans hU.kx
  refine a0s (b5s (P:=prog) (k:=((y.1:Nat):Int)) (vs:=[.map (some r1),ii (y.1:Nat),.bool true]) rfl rfl rfl rfl a7j a2P hoff.1 hbK (MBO.mono hU.w hU.kx)) rfl ?_
  rintro _ _ ⟨rfl,k3,o3,g,ob,E,c,hmg,-,-,rfl⟩
  refine⟨fun h=>(nomatch h),?_⟩
  simp only[cA,nA]
  obtain rfl:r1=g:=by injection hmg with hmg;injection hmg
  replace hU:=hU.put1 (t':=t++[((y.1:Nat):Int)]) (ob:=ob) o3
  generalize X2.put r1 ob=X3 at hU k3 o3⊢
  generalize K.put r1 ob=K3 at hU
  refine a0i ((ldG (l15.trans k3) rfl rfl)) rfl ?_
  simp only[cA,nA]
  refine a0C a2C rfl rfl ((l15.trans k3) _ _ b2) rfl rfl ?_
  simp only[cA,nA]
  refine a3n (a9u ((hw.mono (m1.trans l15)).mono hU.bk) hg hs h0.1 ((hT.mono (m1.trans l15)).mono hU.bk) hU.w.mb hU.o.mb) hU.kx (d1J rfl rfl (a3W rfl rfl) (a3W rfl rfl)) fun u1 K4 X4 a4 w4 b4 c4 d4=> ?_
  simp only[cA,nA]
  replace hU:=hU.grow a4 b4 c4 d4
  obtain⟨x4,rfl⟩:=a7u w4
  obtain⟨x5,hx5⟩:=a7u hU.lw
  subst hx5
  refine a0a w4.rq ?_
  have hcs:=c5R hs h0.1 hB hD hy
  have hsz:Lm z:=Sm.lm (by have:=b5x (s:=s) (t:=t) hlen pre.length;unfold Sm at this⊢;omega)
  have hsc:Lm (a7i s es (t++[((y.1:Nat):Int)]) S):=Sm.lm (by rcases hcs with⟨_,h,_⟩|⟨_,h,_⟩;(rw[h];exact Nat.lt_of_lt_of_le (Nat.zero_lt_one) (Go.WD.BP_pos 100));(rw[h];exact b5x hlen _))
  refine a3n (b5o hU.lw w4 hsz hsc) hU.kx rfl fun u2 K5 X5 a5 w5 b5 c5 d5=> ?_
  simp only[cA,nA]
  subst w5
  replace hU:=hU.grow a5 b5 c5 d5
  refine a0a ⟨_,rfl⟩ ?_
  refine a0e (b:=decide (sgI z (a7i s es (t++[((y.1:Nat):Int)]) S)<0)) rfl (fun hlt=> ?_) (fun hlt=> ?_)
  ·replace hlt:=of_decide_eq_true hlt
   have hlt:=sgI_lt0.1 hlt
   obtain⟨hl,hc1,hc2⟩:lab (etl es t) y.2.1≠lab (etl es t) y.2.2/\a7i s es (t++[((y.1:Nat):Int)]) S=a7o s es (t++[((y.1:Nat):Int)]) (pre.length+1)/\a7o s es t pre.length=a7o s es t (pre.length+1)+a7o s es (t++[((y.1:Nat):Int)]) (pre.length+1):=hcs.elim (fun h=>by rw[h.2.1]at hlt;omega) id
   have htl:t.length<=64:=by have:=hB.len hs h0.1;have:=a1u s;omega
   refine a2z a0q rfl rfl rfl (fun _=>rfl) (fun _=>rfl) hU.kx hU.so (by omega) rfl (fun _=>a1s (a3W rfl hU.so.se.cells) rfl) rfl fun q v29 X6 l6 o6=> ?_
   simp only[cA,nA]
   refine a0a o6.se.one ?_
   exact⟨(hU.bk.trans l6),K5,_,v29,t++[((y.1:Nat):Int)],S,z,rfl,⟨hU.ne,hU.bk,l6,o6,hU.w,hU.o,hU.lw⟩,by rw[List.length_append,List.length_singleton];exact hD.yes hy,d1w hB hD hy hl,z1,by rw[List.length_append,List.length_singleton,<-hc1];exact hlt⟩
  ·replace hlt:=of_decide_eq_false hlt
   have hge:¬z<a7i s es (t++[((y.1:Nat):Int)]) S:=fun h=>hlt (sgI_lt0.2 h)
   refine a3n (a5c hU.lw (w4.mono a5) hsz hsc) hU.kx rfl fun u3 K6 X6 a6 w6 b6 c6 d6=> ?_
   simp only[cA,nA]
   replace hU:=hU.grow a6 b6 c6 d6
   replace hU:Un H5 K6 X6 r1 r2 u3 vt (t++[((y.1:Nat):Int)]) S t (z-a7i s es (t++[((y.1:Nat):Int)]) S):=⟨hU.ne,hU.bk,hU.kx,hU.so,hU.w,hU.o,w6⟩
   refine a0a w6.rq ?_
   have hnew:0<=z-a7i s es (t++[((y.1:Nat):Int)]) S/\z-a7i s es (t++[((y.1:Nat):Int)]) S<a7o s es t (pre.length+1):=by
    rcases hcs with⟨_,h,h2⟩|⟨_,h,h2⟩<;>(rw[h]at hge⊢;omega)
   refine a0s (c5G (P:=prog) (k:=((y.1:Nat):Int)) (vs:=[.map (some r1),ii (y.1:Nat)]) rfl rfl rfl a7j a2P (hU.bk.trans hU.kx) (MBO.mono hU.w hU.kx)) rfl ?_
   rintro _ _ ⟨rfl,k7,o7,g7,ob7,E7,c7,hmg7,-,-,rfl⟩
   refine⟨fun h=>(nomatch h),?_⟩
   simp only[cA,nA]
   obtain rfl:r1=g7:=by injection hmg7 with hmg7;injection hmg7
   replace hU:=hU.put1 (t':=t) (ob:=ob7) o7
   generalize X6.put r1 ob7=X7 at hU k7 o7⊢
   generalize K6.put r1 ob7=K7 at hU
   refine a0s (b5s (P:=prog) (k:=((y.1:Nat):Int)) (vs:=[.map (some r2),ii (y.1:Nat),.bool true]) rfl rfl rfl rfl a7j a2P hoff.2 (hU.bk.trans hU.kx) (MBO.mono hU.o hU.kx)) rfl ?_
   rintro _ _ ⟨rfl,k8,o8,g8,ob8,E8,c8',hmg8,-,-,rfl⟩
   refine⟨fun h=>(nomatch h),?_⟩
   simp only[cA,nA]
   obtain rfl:r2=g8:=by injection hmg8 with hmg8;injection hmg8
   replace hU:=hU.put2 (S':=S++[((y.1:Nat):Int)]) (ob:=ob8) o8
   exact⟨hU.bk.trans hU.kx,_,u3,vt,t,S++[((y.1:Nat):Int)],z-a7i s es (t++[((y.1:Nat):Int)]) S,rfl,hU,by rw[List.length_append,List.length_singleton];exact hD.no hy,hB,hnew.1,by rw[List.length_append,List.length_singleton];exact hnew.2⟩
 ·rintro xs vals X2 K2 hxl hd _ ⟨n1,K,lf,vt,t,S,z,rfl,hU,hD,hB,z1,z2⟩
  simp only[cA,nA]
  have hle:=PH.le_or X2 K2
  have hT2:TreeOk es s t:=d1u (k:=xs.length) hs h0.1 hB (by omega) (by omega)
  have hvc:vt.cells= #[vt]:=hU.so.se.cells
  exact a0f (c2H rfl hvc) ⟨(m1.trans l15).trans (n1.trans hle),vt,t,rfl,hU.so.se.mono ((PH.le.refl _).trans hle),hT2⟩
 ·exact fun _ _ _ _ _ _ _ h=>h.elim
end
end Go.Proofs.YtkcjbfoejpfbbaaGreatDoor
/- Chapter 32: drafts: the bounds fit the plan. -/
namespace Go.GS
def dsm (p wl:List Int):Nat->Nat->Int
 |0,_=>0
 |i+1,d=>dsm p wl i d+if p.getD i 0=(d:Int)then wl.getD i 0 else 0
theorem a7k {p wl:List Int} (h:∀z∈wl,0<=z/\z<=9):∀i d,0<=dsm p wl i d/\dsm p wl i d<=9*i
 |0,_=>⟨Int.le_refl _,Int.le_refl _⟩
 |i+1,d=>by
  have ih:=a7k (p:=p) h i d
  have hz:0<=wl.getD i 0/\wl.getD i 0<=9:=by
   rw[List.getD_eq_getElem?_getD]
   cases e:wl[i]? with
   |none=>exact⟨by simp,by simp⟩
   |some z=>exact h z (List.mem_of_getElem? e)
  simp only[dsm]
  split<;>omega
end Go.GS
namespace Go.Proofs.YtkcjbfoejpfbbaaGreatDoor
open Go.Proofs.Tryz
open Go.RowKit Go.RX Go.GS
section
variable {H:PH} {u wts:Value} {p wl:List Int} {lo hi:Int} {k:Nat}
theorem d1x {a b z:Int} (h1:z<=a) (h2:z<=b):z<=(if b<a then b else a):=by split<;>omega
theorem d1y {a b z:Int} (h1:a<=z) (h2:b<=z):(if b>a then b else a)<=z:=by split<;>omega
theorem d1z {l:List Int} {z:Int} (h:l[0]? =some z) {d':Nat} {y:Int} (hd':d'<1) (hy:l[d']? =some y):z<=y/\y<=z:=by
 obtain rfl:d'=0:=by omega
 rw[h]at hy;cases hy;exact⟨Int.le_refl _,Int.le_refl _⟩
theorem d1A {l:List Int} {a b z:Int} {d:Nat} (h:∀(d':Nat) (y:Int),d'<d->l[d']? =some y->a<=y/\y<=b) (hd:l[d]? =some z) {d':Nat} {y:Int} (hd':d'<d+1) (hy:l[d']? =some y):(if z<a then z else a)<=y/\y<=(if z>b then z else b):=by
 by_cases e:d'=d
 ·subst e;rw[hd]at hy;cases hy;refine⟨?_,?_⟩<;>split<;>omega
 ·have:=h d' y (by omega) hy;refine⟨?_,?_⟩<;>split<;>omega
theorem c5X {p wl l:List Int} (hz9:∀z∈wl,0<=z/\z<=9) {i d:Nat} {x:Int} (hx:p[i]? =some ((d:Nat):Int)) (hw:wl[i]? =some x) (hi:i<64) (hds:∀d,d<8->l[d]? =some (dsm p wl i d)) (hl:l.length=8) (hd8:d<8) {d':Nat} (hd':d'<8):(l.set d (IntKind.i64.wrap (l[d]'(by omega)+x)))[d']? =some (dsm p wl (i+1) d'):=by
 have e1:l[d]'(by omega)=dsm p wl i d:=by
  have:=hds d hd8
  rw[List.getElem?_eq_getElem (by omega)]at this
  exact Option.some.inj this
 have hb:=a7k (p:=p) hz9 i d
 have hx9:=hz9 x (List.mem_of_getElem? hw)
 have ep:p.getD i 0=(d:Int):=by rw[List.getD_eq_getElem?_getD,hx];rfl
 have ew:wl.getD i 0=x:=by rw[List.getD_eq_getElem?_getD,hw];rfl
 rw[List.getElem?_set,e1,IntKind.wrap_i64]
 simp only[dsm]
 rw[ep,ew]
 by_cases e:d=d'
 ·subst e
  rw[if_pos rfl,if_pos (by omega),if_pos rfl]
  congr 1;omega
 ·rw[if_neg e,if_neg (by omega),hds d' hd',Int.add_zero]
theorem b2Q (hz9:∀z∈wl,0<=z/\z<=9) (hp64:p.length<=64) (hk1:1<=k) (hu:SI H u p) (hwt:SI H wts wl) (hlen:p.length<=wl.length) (hp:∀x∈p,0<=x/\x<8) (hk:k<=8):Con prog 49 [bv wts lo hi (k:Nat),u] H fun r H'=>H'=H/\∃a b,r= .tuple #[ii a,ii b]/\0<=a/\a<=b/\b<=576/\∀d,d<k->a<=dsm p wl p.length d/\dsm p wl p.length d<=b:=by
 refine a0d a0r c0o (by kernel_rfl) rfl ?_
 have hpl:=hu.len
 refine a0a (b0U (a0W hwt) _ _ _) ?_
 refine a0S (α:=Nat×List Int) (fun⟨i,l⟩=>[ii (i:Nat),arI l]) (fun⟨i,l⟩=>i<=p.length/\l.length=8/\∀d,d<8->l[d]? =some (dsm p wl i d)) (fun⟨i,l⟩=>p.length-i) ((0,List.replicate 8 0)) (a1s rfl z_8) (⟨Nat.zero_le _,rfl,fun d hd=>by rw[List.getElem?_replicate,if_pos hd];rfl⟩) fun⟨i,l⟩ hQ=> ?_
 simp only[cA,nA]
 obtain⟨hi',hl,hds⟩:=hQ
 refine a0j a1U rfl rfl hu rfl ?_
 refine a0a ⟨_,rfl⟩ ?_
 refine a0a ⟨_,rfl⟩ ?_
 refine a0e (b:=decide (((i:Nat):Int)<(p.length:Nat))) rfl (fun h=> ?_) (fun h=> ?_)
 ·replace h:=of_decide_eq_true h
  have hi2:i<p.length:=by omega
  obtain⟨x,hx,_⟩:=a1j hi2
  obtain⟨hx0,hx8⟩:=hp x (List.mem_of_getElem? hx)
  obtain⟨d,rfl⟩:∃d:Nat,x=(d:Int):=⟨x.toNat,by omega⟩
  have hd:l[d]? =some l[d]:=List.getElem?_eq_getElem (by omega)
  refine a0k a1U rfl rfl rfl rfl (fun _=>rfl) hu hx rfl (fun _=>rfl) fun _=> ?_
  simp only[cA,nA]
  refine a0k a1U rfl rfl rfl rfl (fun _=>rfl) hu hx rfl (fun _=>rfl) fun _=> ?_
  simp only[cA,nA]
  refine a0a ⟨_,_,rfl⟩ ?_
  refine a0a ⟨hx0,hx8⟩ ?_
  refine a0k a0q rfl rfl rfl rfl (fun _=>rfl) hwt (List.getElem?_eq_getElem (show i<wl.length by omega)) rfl (fun _=>rfl) fun _=> ?_
  simp only[cA,nA]
  refine a0a ⟨_,c5g rfl rfl hd⟩ ?_
  refine a0a ⟨_,rfl⟩ ?_
  refine a0a ⟨_,_,rfl⟩ ?_
  refine a0a ⟨hx0,hx8⟩ ?_
  exact⟨(i+1,l.set d (IntKind.i64.wrap (l[d]+wl[i]))),by show p.length-(i+1)<p.length-i;omega,(a1s (a0x rfl (by omega)) (c5h rfl (d3I (c5g rfl rfl hd) rfl) rfl)),⟨⟨hi2,by rw[List.length_set];exact hl,fun d' hd'=>c5X hz9 hx (List.getElem?_eq_getElem (show i<wl.length by omega)) (by omega) hds hl (by omega) hd'⟩,rfl⟩⟩
 ·replace h:=of_decide_eq_false h
  have h0:l[0]? =some l[0]:=List.getElem?_eq_getElem (by omega)
  have hb0:∀(d:Nat) (y:Int),l[d]? =some y->0<=y/\y<=576:=fun d y hy=>by
   have hd8:d<8:=by have:=(List.getElem?_eq_some_iff.1 hy).1;omega
   rw[hds d hd8]at hy;cases hy
   have:=a7k (p:=p) hz9 i d;omega
  refine a0S (α:=Nat×Int×Int) (fun⟨d,a,b⟩=>[ii a,ii b,ii (d:Nat)]) (fun⟨d,a,b⟩=>1<=d/\d<=8/\0<=a/\b<=576/\∀d' y,d'<d->l[d']? =some y->a<=y/\y<=b) (fun⟨d,a,b⟩=>8-d) ((1,l[0],l[0])) (a7m (c6Z rfl h0) (c6Z rfl h0) rfl) (⟨Nat.le_refl _,by decide,(hb0 0 _ h0).1,(hb0 0 _ h0).2,fun d' y hd' hy=>d1z h0 hd' hy⟩) fun⟨d,a,b⟩ hQ=> ?_
  simp only[cA,nA]
  obtain⟨hd1,hd8,ha0,hb5,hab⟩:=hQ
  refine a0a ⟨_,rfl⟩ ?_
  refine a0a ⟨_,rfl⟩ ?_
  refine a0e (b:=decide (((d:Nat):Int)<(k:Nat))) rfl (fun h2=> ?_) (fun h2=> ?_)
  ·replace h2:=of_decide_eq_true h2
   have hd:l[d]? =some l[d]:=List.getElem?_eq_getElem (by omega)
   refine a0a ⟨_,_,rfl⟩ ?_
   refine a0a ⟨by show(0:Int)<=((d:Nat):Int);omega,by show((d:Nat):Int)<8;omega⟩ ?_
   refine a0i ((b4y (vs:=[ii a,ii l[d]]) rfl rfl rfl).rds _) (a1s rfl (c5g rfl rfl hd)) ?_
   simp only[cA,nA]
   refine a0i ((a5N (vs:=[ii b,ii l[d]]) rfl rfl rfl).rds _) (a1s rfl (c5g rfl rfl hd)) ?_
   simp only[cA,nA]
   exact⟨(d+1,(if l[d]<a then l[d]else a),(if l[d]>b then l[d]else b)),by show 8-(d+1)<8-d;omega,(a7m rfl rfl (a0x rfl (by omega))),⟨⟨by show 1<=d+1;omega,by show d+1<=8;omega,(d1x ha0 (hb0 d _ hd).1),(d1y hb5 (hb0 d _ hd).2),fun d' y hd' hy=>d1A hab hd hd' hy⟩,rfl⟩⟩
  ·replace h2:=of_decide_eq_false h2
   have hie:i=p.length:=by omega
   subst hie
   exact a0f rfl ⟨rfl,a,b,rfl,ha0,Int.le_trans (hab 0 _ (by omega) h0).1 (hab 0 _ (by omega) h0).2,hb5,fun d' hd'=>hab d' _ (by omega) (hds d' (by omega))⟩
end
def d4K (H:PH) (r:Value):Prop:=∃(n:Nat) (w:Value) (es:List (Nat×Nat)) (wts:Value) (wl:List Int) (lo hi:Int) (k:Nat) (u:Value) (p:List Int),
 r= .tuple #[gv n w,bv wts lo hi (k:Nat),u]/\SG H w es/\GV n es/\n<=9/\Cn es (2^n-1)/\SI H wts wl/\wl.length=n/\1<=k/\k<=4/\SI H u p/\p.length=n/\(∀x∈p,0<=x/\x<8)/\(∀z∈wl,0<=z/\z<=9)/\0<=lo/\lo<=hi/\hi<=1000/\∀d,d<k->lo<=dsm p wl n d/\dsm p wl n d<=hi
theorem a2E {z:Int} (h0: -100000<=z) (h1:z<=100000):IntKind.i64.wrap z=z:=by
 rw[IntKind.wrap_i64];omega
theorem d1B {ρ:List Value} {x:SV} {a:Nat} (hx:D prog ρ x= .int .u8 (a:Nat)):D prog ρ (.cv .i64 (.op2 .rem .u8 x (.k (.int .u8 10))))=ii ((a%10:Nat):Int):=by
 show Value.int .i64 (IntKind.i64.wrap (Int.tmod (intOf (D prog ρ x)) 10))=_
 rw[hx]
 show Value.int .i64 (IntKind.i64.wrap (Int.tmod ((a:Nat):Int) ((10:Nat):Int)))=_
 have:=Nat.mod_lt a (show 0<10 by decide)
 rw[<-Int.ofNat_tmod,a2E (by omega) (by omega)]
 rfl
theorem d6v {a b:Int} {s0 s1:Nat} (h0:0<=a) (h1:a<=b) (h2:b<=576):0<=(if IntKind.i64.wrap (a-IntKind.i64.wrap (Int.tmod ((s0:Nat):Int) 6))>0 then IntKind.i64.wrap (a-IntKind.i64.wrap (Int.tmod ((s0:Nat):Int) 6))else 0)/\(if IntKind.i64.wrap (a-IntKind.i64.wrap (Int.tmod ((s0:Nat):Int) 6))>0 then IntKind.i64.wrap (a-IntKind.i64.wrap (Int.tmod ((s0:Nat):Int) 6))else 0)<=a/\b<=IntKind.i64.wrap (b+IntKind.i64.wrap (Int.tmod ((s1:Nat):Int) 6))/\IntKind.i64.wrap (b+IntKind.i64.wrap (Int.tmod ((s1:Nat):Int) 6))<=1000:=by
 have e0:Int.tmod ((s0:Nat):Int) 6=((s0%6:Nat):Int):=(Int.ofNat_tmod s0 6).symm
 have e1:Int.tmod ((s1:Nat):Int) 6=((s1%6:Nat):Int):=(Int.ofNat_tmod s1 6).symm
 have l0:=Nat.mod_lt s0 (show 0<6 by decide)
 have l1:=Nat.mod_lt s1 (show 0<6 by decide)
 rw[e0,e1]
 generalize s0%6=x at*
 generalize s1%6=y at*
 have w0:IntKind.i64.wrap ((x:Nat):Int)=(x:Nat):=a2E (by omega) (by omega)
 have w1:IntKind.i64.wrap ((y:Nat):Int)=(y:Nat):=a2E (by omega) (by omega)
 have w2:IntKind.i64.wrap (a-(x:Nat))=a-(x:Nat):=a2E (by omega) (by omega)
 have w3:IntKind.i64.wrap (b+(y:Nat))=b+(y:Nat):=a2E (by omega) (by omega)
 rw[w0,w1,w2,w3]
 split<;>omega
section
variable {H:PH} {s wv cu:Value} {more:List (Nat×Nat)} {wl0 cuts:List Nat} {da db dc dk s0 s1 tr:Nat}
set_option maxHeartbeats 4000000 in
theorem b2R (hs:SE H 2 bc s more) (hwv:SE H 1 c8 wv wl0) (hcu:SE H 1 c8 cu cuts) (hc256:∀c∈cuts,c<256) (htr:tr<256):Con prog 8 [cv da db dc s wv cu dk s0 s1 tr] H fun r H'=>PH.le H H'/\d4K H' r:=by
 refine a0d a0r c0m (by kernel_rfl) rfl ?_
 refine a0a (c7a (a0W hs) (a0W hwv) (a0W hcu) _ _ _ _ _ _ _) ?_
 refine a0a ⟨_,rfl⟩ ?_
 refine a0h (b6r (da:=da%3) (db:=db) (dc:=dc) hs) (a5E (d0y rfl hs.cells)) ?_
 rintro _ H1 ⟨l1,w0,es0,rfl,o1,hg0⟩
 refine⟨fun h=>(nomatch h),?_⟩
 simp only[cA,nA]
 have hn9:(1+da%3%4)*(1+db%3)<=9:=Nat.mul_le_mul (show 1+da%3%4<=3 by omega) (show 1+db%3<=3 by omega)
 generalize (1+da%3%4)*(1+db%3)=n0 at hg0 hn9
 have hn1:=hg0.n1
 have hp2:2^n0-1<2^n0:=Nat.sub_lt (Nat.two_pow_pos n0) (by decide)
 have hpM:2^n0<M64:=a0N (by omega)
 refine a0a (a1m o1.se) ?_
 refine a0v (a0Z (n:=n0) (by omega)) rfl ?_
 simp only[cA,nA]
 have hD1:∀ρ,D prog ρ (.v 2)=uv (2^n0)->D prog ρ (.op2 .sub .u64 (.v 2) (.k (.int .u64 1)))=uv (2^n0-1):=fun ρ h=>b0f (B:=1) h rfl hpM (Nat.two_pow_pos n0)
 refine a0a ⟨_,rfl⟩ ?_
 refine a0J (b2y o1.se hg0 hp2) (a1s rfl (hD1 _ rfl)) fun H2 l2=> ?_
 simp only[cA,nA]
 refine a0a ⟨_,rfl⟩ ?_
 refine⟨(fun l H'=>PH.le H H'/\∃n w es,l=[uv (2^n-1),gv n w]/\SG H' w es/\GV n es/\n<=9/\Cn es (2^n-1)),?_,?_⟩
 ·skip
  refine a0e (b:= !cnB es0 (2^n0-1)) rfl (fun h=> ?_) (fun h=> ?_)
  ·skip
   refine a7J el_edge (l:=a5y) (vs:=[ev2 (0,1),ev2 (0,2),ev2 (1,3),ev2 (2,3)]) rfl (by decide) (by decide) rfl rfl (d1J (d3M (a:=0) (b:=1) rfl rfl) (d3M (a:=0) (b:=2) rfl rfl) (d3M (a:=1) (b:=3) rfl rfl) (d3M (a:=2) (b:=3) rfl rfl)) fun v H4 l4 o4 _=> ?_
   simp only[cA,nA]
   refine a0a o4.se.one ?_
   exact⟨(l1.trans l2).trans l4,4,v,a5y,a1s rfl (by show Value.agg (#[ii 4]++v.cells)=_;rw[o4.se.cells];rfl),o4.se,c5m,by decide,c5n⟩
  ·skip
   exact⟨l1.trans l2,n0,w0,es0,a1s (hD1 _ rfl) rfl,o1.se.mono l2,hg0,hn9,cnB_iff.1 (by simpa using h)⟩
 rintro _ H3 _ ⟨l3,n,w,es,rfl,hw,hg,hn,hC⟩
 simp only[cA,nA]
 have hn1:=hg.n1
 have hes:=hg.len
 have hcard:=c5l ⟨n,by omega⟩
 simp only at hcard
 have hne:2^n-1≠0:=by have:=Nat.pow_le_pow_right (n:=2) (by decide) hn1;omega
 have hp2:2^n-1<2^n:=Nat.sub_lt (Nat.two_pow_pos n) (by decide)
 refine a0h (b6p hw hg hp2 hne (by omega)) rfl ?_
 rintro v6 H4 ⟨l4,sl,⟨o6,htrs,hsl⟩,hnil⟩
 refine⟨fun h=>(nomatch h),?_⟩
 simp only[cA,nA]
 have hs0:0<sl.length:=List.length_pos_iff.2 (hnil hC)
 refine a0a ⟨_,rfl⟩ ?_
 refine a0j b1n rfl rfl o6.se rfl ?_
 refine a0a ⟨_,rfl⟩ ?_
 refine a0a (show((sl.length:Nat):Int)≠0 by omega) ?_
 have htm:tr%sl.length<sl.length:=Nat.mod_lt _ hs0
 have hsa:=List.getElem?_eq_getElem htm
 refine a0k b1n rfl rfl rfl rfl (fun _=>rfl) o6.se hsa (a1s rfl (c7b rfl htr rfl)) (fun _=>rfl) fun _=> ?_
 simp only[cA,nA]
 obtain⟨t0,ot,hT⟩:=htrs _ (List.mem_of_getElem? hsa)
 have htl:=hT.len
 refine a0a ⟨_,rfl⟩ ?_
 refine a0a ⟨_,rfl⟩ ?_
 refine⟨(fun l H'=>H'=H4/\∃k:Nat,l=[ii (k:Nat)]/\1<=k/\k<=4/\k<=n),?_,?_⟩
 ·skip
  have hdk:=Nat.mod_lt dk (show 0<4 by decide)
  have hDk:∀ρ:List Value,D prog ρ (.v 0)=cv da db dc s wv cu dk s0 s1 tr->D prog ρ (.op2 .add .i64 (.k (.int .i64 1)) (.cv .i64 (.op2 .rem .u8 (.cell (.v 0) 6 0 noI) (.k (.int .u8 4)))))=ii ((1+dk%4:Nat):Int):=fun ρ h=>c5i (m:=4) (mi:=4) (by show(D prog ρ (.v 0)).cells.getD _ undef=_;rw[h];rfl) rfl (by decide) (by decide)
  refine a0e (b:=decide (((1+dk%4:Nat):Int)>(n:Nat))) (by show Value.bool (decide (intOf (D prog _ (.op2 .add .i64 _ _))>_))=_;rw[hDk _ rfl];rfl) (fun h=> ?_) (fun h=> ?_)
  ·replace h:=of_decide_eq_true h
   exact⟨rfl,n,rfl,hn1,by omega,Nat.le_refl _⟩
  ·replace h:=of_decide_eq_false h
   exact⟨rfl,1+dk%4,a5E (hDk _ rfl),by omega,by omega,by omega⟩
 rintro _ H4 _ ⟨rfl,k,rfl,hk1,hk4,hkn⟩
 simp only[cA,nA]
 have lH4:=l3.trans l4
 refine a0n (α:=List Int×Value×Nat) (fun⟨t,u,i⟩=>[u,ii (i:Nat)]) (fun⟨t,u,i⟩=>fun H'=>PH.le H4 H'/\SI H' u t/\i<=k-1/\t.length+1+i=n/\∀z∈t,0<=z/\z.toNat<es.length) (fun⟨t,u,i⟩=>k-i) ((t0,vs sl[tr%sl.length],0)) rfl (⟨PH.le.refl _,ot.se,Nat.zero_le _,by omega,fun z hz=>⟨(hT.ok z hz).1,(hT.ok z hz).2.1⟩⟩) fun⟨t,u,i⟩ H' hQ=> ?_
 simp only[cA,nA]
 obtain⟨l5,hu,hi,hlen,hok⟩:=hQ
 have hcu2:=hcu.mono (lH4.trans l5)
 refine a0a ⟨_,rfl⟩ ?_
 refine a0a ⟨_,rfl⟩ ?_
 refine a0e (b:=decide (((i:Nat):Int)<((k:Nat):Int)-1)) (by show Value.bool (decide (((i:Nat):Int)<IntKind.i64.wrap (((k:Nat):Int)-1)))=_;rw[show IntKind.i64.wrap (((k:Nat):Int)-1)=((k:Nat):Int)-1 by rw[IntKind.wrap_i64];omega]) (fun h=> ?_) (fun h=> ?_)
 ·replace h:=of_decide_eq_true h
  refine a0j c5k rfl rfl hcu2 rfl ?_
  refine a0a ⟨_,rfl⟩ ?_
  refine⟨(fun l H''=>H''=H'/\∃j:Nat,l=[ii (j:Nat)]/\j<t.length),?_,?_⟩
  ·skip
   refine a0e (b:=decide (((i:Nat):Int)<(cuts.length:Nat))) rfl (fun h2=> ?_) (fun h2=> ?_)
   ·replace h2:=of_decide_eq_true h2
    have hi2:i<cuts.length:=by omega
    refine a0k c5k rfl rfl rfl rfl (fun _=>rfl) hcu2 (List.getElem?_eq_getElem hi2) rfl (fun _=>rfl) fun _=> ?_
    simp only[cA,nA]
    refine a0a ⟨_,rfl⟩ ?_
    refine a0j a0q rfl rfl hu rfl ?_
    refine a0a ⟨_,rfl⟩ ?_
    refine a0a (show((t.length:Nat):Int)≠0 by omega) ?_
    exact⟨rfl,cuts[i]%t.length,a5E (c7b rfl (hc256 _ (List.getElem_mem hi2)) rfl),Nat.mod_lt _ (by omega)⟩
   ·replace h2:=of_decide_eq_false h2
    exact⟨rfl,0,rfl,by omega⟩
  rintro _ H' _ ⟨rfl,j,rfl,hj⟩
  simp only[cA,nA]
  refine a6s a0q rfl rfl fun v15 H6 l6 o6 _=> ?_
  simp only[cA,nA]
  obtain⟨u2,hy2,hs2⟩:=b7p a0q (vs:=[u,ii (j:Nat)]) (k:= .i64) (j:=j) a7s rfl rfl (hu.mono l6) (by omega)
  refine a0i (hy2.rds _) rfl ?_
  simp only[cA,nA]
  have hl2:(t.take j).length<=64:=by rw[List.length_take];omega
  refine a1S a0q rfl rfl rfl l6 o6 hs2 (by simp only[List.length_nil];omega) rfl rfl fun v17 H7 l7 o7 _=> ?_
  simp only[cA,nA]
  obtain⟨u3,hy3,hs3⟩:=b7q a0q (vs:=[u,ii ((j+1:Nat):Int)]) (k:= .i64) (j:=j+1) a7t rfl rfl (hu.mono l7) (by omega)
  refine a0a ⟨_,rfl⟩ ?_
  refine a0i (hy3.rds _) (a1s rfl (a0x rfl (by omega))) ?_
  simp only[cA,nA]
  have hl3:(t.drop (j+1)).length<=64:=by rw[List.length_drop];omega
  refine a1S a0q rfl rfl rfl l7 o7 hs3 (by rw[List.nil_append];omega) rfl rfl fun v19 H8 l8 o8 _=> ?_
  simp only[cA,nA]
  rw[List.nil_append]at o8
  have hlen2:(t.take j++t.drop (j+1)).length+1+(i+1)=n:=by rw[List.length_append,List.length_take,List.length_drop];omega
  have hok2:∀z∈t.take j++t.drop (j+1),0<=z/\z.toNat<es.length:=fun z hz=>hok z ((List.mem_append.1 hz).elim List.mem_of_mem_take List.mem_of_mem_drop)
  exact⟨(t.take j++t.drop (j+1),v19,i+1),by show k-(i+1)<k-i;omega,(a1s rfl (a0x rfl (by omega))),⟨l5.trans l8,o8.se,by show i+1<=k-1;omega,hlen2,hok2⟩⟩
 ·replace h:=of_decide_eq_false h
  have hie:i=k-1:=by omega
  have hw5:SG H' w es:=hw.mono (l4.trans l5)
  obtain⟨e,he,hf,h0⟩:∃e:Nat×Nat,e.1<e.2/\(∀y,t[0]? =some y->Ed es y=e/\e.2<n)/\(t=[]->n<=e.1):=by
   cases t with
   |nil=>exact⟨(n,n+1),by show n<n+1;omega,fun y hy=>by simp at hy,fun _=>Nat.le_refl _⟩
   |cons y t=>
    obtain⟨h1,h2⟩:=hok y (List.mem_cons_self ..)
    have hm:=hg.ed _ (List.getElem_mem h2)
    have hE:Ed es y=es[y.toNat]:=by unfold Ed;rw[List.getD_eq_getElem?_getD,List.getElem?_eq_getElem h2];rfl
    exact⟨Ed es y,by rw[hE];exact hm.1,fun z hz=>by simp at hz;subst hz;exact⟨rfl,by rw[hE];exact hm.2⟩,fun h=>nomatch h⟩
  refine a0h (b6q hw5 hg hu hok (by omega) he (fun y hy=>(hf y hy).1) h0) rfl ?_
  rintro v13 H9 ⟨l9,p,nx,hp,hL⟩
  refine⟨fun h=>(nomatch h),?_⟩
  simp only[cA,nA]
  have hnx:nx<=8:=by
   have h1:=hL.nx
   by_cases h9:n=9
   ·have ht:0<t.length:=by omega
    have:=hL.kb (hf _ (List.getElem?_eq_getElem ht)).2
    omega
   ·omega
  have hpl:=hL.len
  have hp8:∀x∈p,0<=x/\x<8:=fun x hx=>by
   obtain⟨y,hy⟩:=List.mem_iff_getElem?.1 hx
   have hyn:y<n:=by rw[<-hpl];exact(List.getElem?_eq_some_iff.1 hy).1
   have h1:=hL.lo y x hy
   have h2:=hL.done y x hyn hy
   omega
  refine a0a (b4W _) ?_
  have lH9:=(lH4.trans l5).trans l9
  refine a0n (α:=Nat×Value×List Int) (fun⟨x,wt,wl⟩=>[ii (x:Nat),bv wt 0 0 (k:Nat)]) (fun⟨x,wt,wl⟩=>fun H'=>PH.le H9 H'/\x<=n/\SO H9 H' 3 1 (fun z:Int=>[ii z]) wt wl/\wl.length=x/\(∀z∈wl,0<=z/\z<=9)) (fun⟨x,wt,wl⟩=>n-x) ((0,.slice none 0 0,[])) (a1s rfl (d7j rfl)) (⟨PH.le.refl _,Nat.zero_le _,SO.nil _ _ _ _ _,rfl,fun z hz=>by cases hz⟩) fun⟨x,wt,wl⟩ H10 hQ10=> ?_
  simp only[cA,nA]
  obtain⟨l10,hx,o10,hwl,hz9⟩:=hQ10
  have hwv2:=hwv.mono (lH9.trans l10)
  refine a0a ⟨_,rfl⟩ ?_
  refine a0e (b:=decide (((x:Nat):Int)<(n:Nat))) rfl (fun h2=> ?_) (fun h2=> ?_)
  ·replace h2:=of_decide_eq_true h2
   refine a0j c5k rfl rfl hwv2 rfl ?_
   refine a0a ⟨_,rfl⟩ ?_
   refine⟨(fun l H''=>H''=H10/\∃z:Int,l=[ii z]/\0<=z/\z<=9),?_,?_⟩
   ·skip
    refine a0e (b:=decide (((x:Nat):Int)<(wl0.length:Nat))) rfl (fun h3=> ?_) (fun h3=> ?_)
    ·replace h3:=of_decide_eq_true h3
     refine a0k c5k rfl rfl rfl rfl (fun _=>rfl) hwv2 (List.getElem?_eq_getElem (show x<wl0.length by omega)) rfl (fun _=>rfl) fun _=> ?_
     simp only[cA,nA]
     have hrm:=Nat.mod_lt wl0[x] (show 0<10 by decide)
     refine a0a ⟨_,rfl⟩ ?_
     exact⟨rfl,_,a5E (d1B rfl),by omega,by omega⟩
    ·replace h3:=of_decide_eq_false h3
     exact⟨rfl,1,rfl,by decide,by decide⟩
   rintro _ H10 _ ⟨rfl,z,rfl,hz0,hz1⟩
   simp only[cA,nA]
   refine a2z a0q rfl rfl rfl (fun _=>rfl) (fun _=>rfl) l10 o10 (by omega) rfl (fun _=>rfl) rfl fun q v19 H11 l11 o11=> ?_
   simp only[cA,nA]
   refine a0a o11.se.one ?_
   exact⟨(x+1,v19,wl++[z]),by show n-(x+1)<n-x;omega,(a1s (a0x rfl (by omega)) (d3O rfl rfl o11.se.cells)),⟨l11,by show x+1<=n;omega,o11,by show(wl++[z]).length=x+1;rw[List.length_append,hwl];rfl,fun y hy=>by rcases List.mem_append.1 hy with hy|hy;exact hz9 y hy;rw[List.mem_singleton]at hy;subst hy;exact⟨hz0,hz1⟩⟩⟩
  ·replace h2:=of_decide_eq_false h2
   have hxn:x=n:=by omega
   refine a0h (b2Q (lo:=0) (hi:=0) (k:=k) hz9 (by omega) hk1 (hp.mono l10) o10.se (by omega) hp8 (by omega)) rfl ?_
   rintro _ _ ⟨rfl,a,b,rfl,ha0,hab,hb5,hds⟩
   refine⟨fun h=>(nomatch h),?_⟩
   simp only[cA,nA]
   have hlh:=d6v (s0:=s0) (s1:=s1) ha0 hab hb5
   refine a0a ⟨_,rfl,by simp⟩ ?_
   refine a0a ⟨_,rfl,by simp⟩ ?_
   refine a0a ⟨_,rfl⟩ ?_
   refine a0a ⟨_,rfl⟩ ?_
   refine a0i ((a5N (vs:=[ii 0,ii (IntKind.i64.wrap (a-IntKind.i64.wrap (Int.tmod ((s0:Nat):Int) 6)))]) rfl rfl rfl).rds _) rfl ?_
   simp only[cA,nA]
   have hB:∀(lo':Int) (ρ:List Value),D prog ρ (.v 0)=cv da db dc s wv cu dk s0 s1 tr->D prog ρ (.v 15)=bv wt 0 0 (k:Nat)->D prog ρ (.v 16)= .tuple #[ii a,ii b]->D prog ρ (.v 17)=ii lo'->D prog ρ (.cat (.sub (.v 15) 0 1 0 noI) 1 (.cat (.v 17) 1 (.cat (.op2 .add .i64 (.proj (.v 16) 1) (.cv .i64 (.op2 .rem .u8 (.cell (.v 0) 8 0 noI) (.k (.int .u8 6))))) 1 (.sub (.sub (.v 15) 2 2 0 noI) 1 1 0 noI))))=bv wt lo' (IntKind.i64.wrap (b+IntKind.i64.wrap (Int.tmod ((s1:Nat):Int) 6))) (k:Nat):=fun lo' ρ h0 h1 h2 h3=>d3P h1 h3 (by show a1H .add .i64 (intOf (match D prog ρ (.v 16)with| .tuple vs=>vs.getD 1 undef|_=>undef)) (IntKind.i64.wrap (Int.tmod (intOf ((D prog ρ (.v 0)).cells.getD (8+0*a1w (D prog ρ noI)) undef)) 6))=_;rw[h0,h2,Nat.zero_mul];rfl)
   refine a0a ⟨_,rfl⟩ ?_
   refine a0a ⟨_,rfl⟩ ?_
   refine a0a (b4W _) ?_
   refine a0a (by show(D prog _ (.cat _ 1 (.cat _ 1 (.cat _ 1 _)))).cells.size=4/\_;rw[hB _ _ rfl rfl rfl rfl];exact b0U (a0W o10.se) _ _ _) ?_
   exact a0f (by show Value.tuple #[_,D prog _ (.cat _ 1 (.cat _ 1 (.cat _ 1 _))),_]=_;rw[hB _ _ rfl rfl rfl rfl];rfl) ⟨lH9.trans l10,n,w,es,wt,wl,_,_,k,v13,p,rfl,hw5.mono (l9.trans l10),hg,hn,hC,o10.se,by omega,hk1,hk4,hp.mono l10,hpl,hp8,hz9,hlh.1,by omega,hlh.2.2.2,fun d hd=>by have:=hds d hd;rw[hpl]at this;omega⟩
end
end Go.Proofs.YtkcjbfoejpfbbaaGreatDoor
/- Chapter 32: the law RecomCuts returns true. -/
namespace Go.Proofs.YtkcjbfoejpfbbaaGreatDoor
open Go.Proofs.Tryz
open Go.RowKit Go.RX Go.GS
open Go.WD (wd iw rs toI HM)
set_option maxRecDepth 100000
theorem c5Y {H:PH} {u:Value} {l:List Int} (hu:SI H u l) (hl:l.Pairwise (· < ·)):Asks prog 37 [u] H (.bool true):=by
 refine a0d a0r d1d (by kernel_rfl) rfl ?_
 have hlen:=hu.len
 refine a0j a0q rfl rfl hu rfl ?_
 refine a0a ⟨_,rfl⟩ ?_
 refine a0S (α:=Int) (fun i=>[.bool false,ii i]) (fun i=>i<(l.length:Nat)/\ -1<=i) (fun i=>(i+1).toNat) (((l.length:Nat):Int)-1) (a1s rfl (b0g (y:=1) rfl rfl (by omega) (by omega))) (⟨by omega,by omega⟩) fun i hQ=> ?_
 simp only[cA,nA]
 refine a0a ⟨_,rfl⟩ ?_
 refine a0e (b:=decide (i>0)) rfl (fun h=> ?_) (fun h=> ?_)
 ·replace h:=of_decide_eq_true h
  obtain⟨k,rfl⟩:∃k:Nat,i=((k+1:Nat):Int):=⟨(i-1).toNat,by omega⟩
  have hk:k+1<l.length:=by omega
  refine a0k a0q rfl rfl rfl rfl (fun _=>rfl) hu (List.getElem?_eq_getElem hk) rfl (fun _=>rfl) fun _=> ?_
  simp only[cA,nA]
  refine a0k a0q rfl rfl rfl rfl (fun _=>rfl) hu (List.getElem?_eq_getElem (show k<l.length by omega)) (a1s rfl (c7p rfl (by omega))) (fun _=>rfl) fun _=> ?_
  simp only[cA,nA]
  refine a0v (d1h l[k+1] l[k]) rfl ?_
  simp only[cA,nA]
  have hlt:=List.pairwise_iff_getElem.1 hl k (k+1) (by omega) hk (by omega)
  refine a0a ⟨_,rfl⟩ ?_
  refine a0y (by show Value.bool (decide (l[k+1]<l[k]))=_;rw[decide_eq_false (by omega)]) ?_
  exact⟨((k:Nat):Int),by omega,(a1s rfl (c7p rfl (by omega))),⟨⟨by omega,by omega⟩,rfl⟩⟩
 ·replace h:=of_decide_eq_false h
  exact a0f rfl ⟨rfl,rfl⟩
theorem d4L {C:Int}:∃m e q e',b0u C= .tuple #[wd m,ii e]/\a7O (toI m)= .tuple #[ii q,ii e']/\(q=C\/q=0):=by
 have h64:∀z:Int,∃q e',a7O z= .tuple #[ii q,ii e']/\(q=z\/q=0):=fun z=>by
  unfold a7O
  split
  ·exact⟨z,0,rfl,.inl rfl⟩
  ·exact⟨0,6,rfl,.inr rfl⟩
 by_cases h: -(HM:Int)<=C/\C<HM
 ·obtain⟨q,e',h1,h2⟩:=h64 (toI (rs C))
  refine⟨rs C,0,q,e',by unfold b0u;rw[if_pos h];rfl,h1,?_⟩
  rw[Go.WD.toI_rs h]at h2;exact h2
 ·obtain⟨q,e',h1,h2⟩:=h64 (toI 0)
  refine⟨0,6,q,e',by unfold b0u;rw[if_neg h];rfl,h1,.inr ?_⟩
  rcases h2 with h2|h2
  ·have h0:=Go.WD.toI_rs (z:=0) (d2z (by omega) (by omega))
   rw[show rs 0=0 from by unfold rs;simp]at h0
   rw[h2,h0]
  ·exact h2
theorem d4M {ρ:List Value} {x y:SV} {c m:Nat} (hx:D prog ρ x= .int .u32 (c:Nat)) (hc:c<4294967296) (hy:D prog ρ y=ii (m:Nat)):D prog ρ (.op2 .rem .i64 (.cv .i64 x) y)=ii ((c%m:Nat):Int):=by
 show a1H .rem .i64 (IntKind.i64.wrap (intOf (D prog ρ x))) (intOf (D prog ρ y))=_
 rw[hx,hy]
 show Value.int .i64 (Int.tmod (IntKind.i64.wrap ((c:Nat):Int)) ((m:Nat):Int))=_
 rw[show IntKind.i64.wrap ((c:Nat):Int)=((c:Nat):Int) by rw[IntKind.wrap_i64];omega,<-Int.ofNat_tmod]
 rfl
theorem c7u (A:Nat):(GS.uv A).cells.size=1/\a0u (GS.uv A).cells:=⟨rfl,fun c hc=>by
 have hc:c∈[GS.uv A]:=by simpa[Value.cells,GS.uv]using hc
 rw[List.mem_singleton]at hc;subst hc;rfl⟩
theorem d7n:a0G prog 89= .agg #[GS.uv 0,GS.uv 0]:=by kernel_rfl
def sdX (A B j:Nat):Nat:=if j=0 then A else B
theorem d1C {ρ:List Value} {x y I:SV} {A B j:Nat} (hx:D prog ρ x=GS.uv A) (hy:D prog ρ y=GS.uv B) (hI:D prog ρ I=ii (j:Nat)) (hj:j<2):D prog ρ (.cell (.put (.put (.z 89) 0 1 x 0 noI) 1 1 y 0 noI) 0 1 I)=GS.uv (sdX A B j):=by
 show(Value.agg (spl (Value.agg (spl (a0G prog 89).cells (0+0*a1w (D prog ρ noI)) (D prog ρ x).cells.toList)).cells (1+0*a1w (D prog ρ noI)) (D prog ρ y).cells.toList)).cells.getD (0+1*a1w (D prog ρ I)) undef=_
 rw[hx,hy,hI,d7n,Nat.zero_mul,Nat.add_zero,Nat.add_zero,Nat.zero_add,Nat.one_mul,show a1w (ii (j:Nat))=j from Int.toNat_natCast j]
 rcases(show j=0\/j=1 by omega)with rfl|rfl<;>rfl
noncomputable def gjB (a b:Bool) (j:Nat):Bool:=(decide (j=0)||a)&&(decide (j<=1)||b)
theorem c5Z {a b:Bool} {j:Nat} {es:List (Nat×Nat)} {wl:List Int} {lo hi:Int} {A B:Nat} (hj:j<2) (ha:a=alB es wl lo hi A) (hb:b=alB es wl lo hi B):gjB a b (j+1)=(gjB a b j&&alB es wl lo hi (sdX A B j)):=by
 rcases(show j=0\/j=1 by omega)with rfl|rfl
 ·simp[gjB,sdX,ha]
 ·simp[gjB,sdX,hb]
theorem c6a {es:List (Nat×Nat)} {wl:List Int} {lo hi:Int} {s:Nat} {t:List Int} {k:Int} (hk:k∈t):(a9z es wl lo hi s t t).contains k=(alB es wl lo hi (a2B es s t k)&&alB es wl lo hi (sdf s (a2B es s t k))):=by
 unfold a9z
 rw[Bool.eq_iff_iff,List.contains_iff_mem,List.mem_filter]
 exact⟨fun h=>h.2,fun h=>⟨hk,h⟩⟩
theorem c2I {es:List (Nat×Nat)} {wl:List Int} {lo hi:Int} {s:Nat} {t:List Int} {i:Nat} {x:Int} (hx:t[i]? =some x):(a9z es wl lo hi s t (t.take (i+1))).length=(a9z es wl lo hi s t (t.take i)).length+if(alB es wl lo hi (a2B es s t x)&&alB es wl lo hi (sdf s (a2B es s t x)))=true then 1 else 0:=by
 rw[take_snoc hx];unfold a9z;rw[List.filter_append,List.length_append,List.filter_cons]
 split<;>rfl
theorem c6b {wl:List Int} {X i:Nat} (hwl:∀z∈wl,0<=z/\z<=9) (hi:i<=64) (hil:i<=wl.length):0<=(((List.range i).filter (bit X)).map fun x=>wl.getD x 0).sum/\(((List.range i).filter (bit X)).map fun x=>wl.getD x 0).sum<=1000000000*64:=by
 have hbd:=b0i (((List.range i).filter (bit X)).map fun x=>wl.getD x 0) (by
  intro z hz
  rw[List.mem_map]at hz
  obtain⟨a,ha,rfl⟩:=hz
  have ha':=List.mem_range.1 (List.mem_filter.1 ha).1
  rw[List.getD_eq_getElem?_getD,List.getElem?_eq_getElem (show a<wl.length by omega)]
  have:=hwl _ (List.getElem_mem (show a<wl.length by omega))
  show 0<=wl[a]/\wl[a]<=1000000000
  omega)
 have hle:=List.length_filter_le (bit X) (List.range i)
 rw[List.length_map]at hbd
 rw[List.length_range]at hle
 omega
theorem c6c {H:PH} {s wv cu:Value} {more:List (Nat×Nat)} {wl0 cuts:List Nat} {da db dc dk s0 s1 tr nn:Nat} (hT:Tb H) (hwork:a8O prog 7 [] H (.bool true)) (hs:SE H 2 bc s more) (hwv:SE H 1 c8 wv wl0) (hcu:SE H 1 c8 cu cuts) (hc256:∀c∈cuts,c<256) (htr:tr<256) (hnn:nn<4294967296):
  Con prog 6 [cv da db dc s wv cu dk s0 s1 tr,.int .u32 (nn:Nat)] H fun r H'=>PH.le H H'/\r= .bool true:=by
 refine a0d a0r d1e (by kernel_rfl) rfl ?_
 refine a0a (c7a (a0W hs) (a0W hwv) (a0W hcu) _ _ _ _ _ _ _) ?_
 refine a0J (hwork) rfl fun H1 l1=> ?_
 simp only[cA,nA]
 refine a0a ⟨_,rfl⟩ ?_
 refine a0y rfl ?_
 refine a0h (b2R (hs.mono l1) (hwv.mono l1) (hcu.mono l1) hc256 htr) rfl ?_
 rintro v3 H2 ⟨l2,n,w,es,wts,wl,lo,hi,k,u,p,rfl,hw,hg,hn9,hC,hwt,hwl,hk1,hk4,hu,hpl,hp8,hz9,hlo,hlh,hhi,-⟩
 refine⟨fun h=>(nomatch h),?_⟩
 simp only[cA,nA]
 have hn1:=hg.n1
 have hT2:=hT.mono (l1.trans l2)
 have hp2:2^n-1<2^n:=Nat.sub_lt (Nat.two_pow_pos n) (by decide)
 have hpM:2^n<M64:=a0N (by omega)
 have hSM:2^n-1<M64:=by omega
 have hne:2^n-1≠0:=by have:=Nat.pow_le_pow_right (n:=2) (by decide) hn1;omega
 generalize hSe:2^n-1=S at hC hp2 hSM hne
 have hD1:∀ρ:List Value,D prog ρ (.v 3)= .tuple #[gv n w,bv wts lo hi (k:Nat),u]->D prog ρ (.op2 .sub .u64 (.op2 .shl .u64 (.k (.int .u64 1)) (.cell (.proj (.v 3) 0) 0 0 noI)) (.k (.int .u64 1)))=GS.uv S:=fun ρ h=>by
  rw[<-hSe]
  refine b0f (B:=1) (a4N (n:=n) (k:= .i64) ?_ (by omega)) rfl hpM (Nat.two_pow_pos n)
  show(match D prog ρ (.v 3)with| .tuple vs=>vs.getD 0 undef|_=>undef).cells.getD (0+0*a1w (D prog ρ noI)) undef=_
  rw[h,Nat.zero_mul];rfl
 refine a0a ⟨_,rfl,by simp⟩ ?_
 refine a0a ⟨_,rfl,by simp⟩ ?_
 refine a0a ⟨_,rfl,by simp⟩ ?_
 refine a0a (a1m hw) ?_
 refine a0a (b0U (a0W hwt) _ _ _) ?_
 refine a0a ⟨_,_,rfl⟩ ?_
 refine a0a (by show(0:Int)<=(n:Nat);omega) ?_
 refine a0h (c5U hw hg ⟨hne,hp2⟩ hSM hT2) (a1s rfl (hD1 _ rfl)) ?_
 rintro v4 H3 ⟨l3,hv4⟩
 refine⟨fun h=>(nomatch h),?_⟩
 simp only[cA,nA]
 have hCp:=c5S (es:=es) hSM hne hC
 obtain⟨m4,e4,q,e5,ht4,ht5,hq⟩:=d4L (C:=a7i S es [] [])
 rw[ht4]at hv4
 subst hv4
 refine a0a ⟨_,rfl,by simp⟩ ?_
 refine a0a ⟨_,rfl,by simp⟩ ?_
 refine a0a (b2A m4) ?_
 refine a0v ((by have:=c8t m4;rw[ht5]at this;exact this)) rfl ?_
 simp only[cA,nA]
 refine a0a ⟨_,rfl,by simp⟩ ?_
 refine a0a ⟨_,rfl,by simp⟩ ?_
 refine a0a ⟨_,rfl⟩ ?_
 refine a0i ((a5N (vs:=[ii q,ii 1]) rfl rfl rfl).rds _) rfl ?_
 simp only[cA,nA]
 obtain⟨mx,hmx,hm1,hmq⟩:∃mx:Nat,(if(1:Int)>q then 1 else q)=(mx:Int)/\1<=mx/\(mx=1\/(mx:Int)=q):=by
  split
  ·exact⟨1,rfl,Nat.le_refl _,.inl rfl⟩
  ·exact⟨q.toNat,by omega,by omega,.inr (by omega)⟩
 rw[hmx]
 refine a0a ⟨_,rfl⟩ ?_
 refine a0a (show((mx:Nat):Int)≠0 by omega) ?_
 have hrm:nn%mx<mx:=Nat.mod_lt _ hm1
 have hrl:=Nat.mod_le nn mx
 have hrC:((nn%mx:Nat):Int)<a7i S es [] []:=by
  rcases hmq with e|e
  ·subst e;rw[Nat.mod_one];exact hCp
  ·rcases hq with hq|hq<;>omega
 refine a0v ((b8i ((nn%mx:Nat):Int) (by omega) (by omega))) (a5E (d4M rfl hnn rfl)) ?_
 simp only[cA,nA]
 have htoI:toI (rs ((nn%mx:Nat):Int))=(nn%mx:Nat):=Go.WD.toI_rs (d2z (by omega) (by omega))
 refine a0h (c5W (z0:=rs ((nn%mx:Nat):Int)) (hw.mono l3) hg ⟨hne,hp2⟩ hSM (hT2.mono l3) (by rw[htoI];omega) (by rw[htoI];exact hrC)) (a7m rfl (hD1 _ rfl) rfl) ?_
 rintro _ H4 ⟨l4,vt,t,rfl,ht,hTr⟩
 refine⟨(fun _=>l4),?_⟩
 simp only[cA,nA]
 have l34:=l3.trans l4
 refine a0a ⟨_,rfl,by simp⟩ ?_
 refine a0a ⟨_,rfl,by simp⟩ ?_
 refine a0h (c5f (hT2.mono l34) (hw.mono l34) hg (hwt.mono l34) ht hSM) (d1J rfl rfl (hD1 _ rfl) rfl) ?_
 rintro _ H5 ⟨l5,v9,lb,e9,rfl,h9,he9,hl9⟩
 refine⟨fun h=>(nomatch h),?_⟩
 simp only[cA,nA]
 have hbd:bdE n wl lo hi (k:Nat)=0:=if_pos ⟨hwl,hlo,hlh,by omega,by omega,fun z hz=>by have:=hz9 z hz;omega⟩
 rw[hbd,if_neg (by decide),b7L ⟨hne,hp2⟩ hTr]at he9
 subst he9
 rw[if_neg (by decide)]at hl9
 subst hl9
 refine a0a ⟨_,rfl,by simp⟩ ?_
 refine a0a ⟨_,rfl,by simp⟩ ?_
 refine a0a ⟨_,rfl⟩ ?_
 refine a0y rfl ?_
 refine a0a ⟨_,rfl⟩ ?_
 refine a0y rfl ?_
 have hpw:(a9z es wl lo hi S t t).Pairwise (· < ·):=hTr.asc.filter _
 refine a1e (c5Y h9 hpw) rfl ?_
 simp only[cA,nA]
 refine a0a ⟨_,rfl⟩ ?_
 refine a0y rfl ?_
 have l25:=l34.trans l5
 have ht5':=ht.mono l5
 have htl:t.length<=64:=by have:=hTr.len;have:=a1u S;omega
 refine a0j a0q rfl rfl ht5' rfl ?_
 simp only[cA,nA]
 refine a0n (α:=Nat) (fun i=>[.bool false,ii ((a9z es wl lo hi S t (t.take i)).length:Nat),ii (i:Nat)]) (fun i=>fun H'=>i<=t.length/\PH.le H5 H') (fun i=>t.length-i) (0) rfl (⟨Nat.zero_le _,PH.le.refl _⟩) fun i H6 ⟨hi6,l6⟩=> ?_
 simp only[cA,nA]
 refine a0a ⟨_,rfl⟩ ?_
 refine a0a ⟨_,rfl⟩ ?_
 refine a0e (b:=decide (((i:Nat):Int)<(t.length:Nat))) rfl (fun h=> ?_) (fun h=> ?_)
 ·replace h:=of_decide_eq_true h
  have hi':i<t.length:=by omega
  obtain⟨x,hx,_⟩:=a1j hi'
  have hxm:=List.mem_of_getElem? hx
  refine a0k a0q rfl rfl rfl rfl (fun _=>rfl) (ht5'.mono l6) hx rfl (fun _=>rfl) fun _=> ?_
  simp only[cA,nA]
  refine a0J (b1m (hT2.mono (l25.trans l6)) (hw.mono (l25.trans l6)) hg (ht5'.mono l6) ⟨hne,hp2⟩ hTr hxm) (d1J rfl (hD1 _ rfl) rfl rfl) fun H7 l7=> ?_
  simp only[cA,nA]
  have hAs:=b3q hSM hne hTr x
  have hA2:a2B es S t x<2^n:=a8U hp2 hAs
  have hB2:sdf S (a2B es S t x)<2^n:=a8U hp2 (fun y hy=>by rw[a1T]at hy;simp at hy;exact hy.1)
  generalize hAe:a2B es S t x=A at hA2 hB2
  generalize hBe:sdf S A=B at hB2
  refine a0a ⟨_,rfl,by simp⟩ ?_
  refine a0a ⟨_,rfl,by simp⟩ ?_
  refine a0a ⟨_,rfl,by simp⟩ ?_
  refine a0a ⟨_,rfl⟩ ?_
  refine a0a (c7u A) ?_
  refine a0a (c7u B) ?_
  refine a0n (α:=Nat) (fun j=>[.bool (gjB (alB es wl lo hi A) (alB es wl lo hi B) j),ii (j:Nat)]) (fun j=>fun H'=>j<=2/\PH.le H7 H') (fun j=>2-j) (0) rfl (⟨Nat.zero_le _,PH.le.refl _⟩) fun j H8 ⟨hj,l8⟩=> ?_
  simp only[cA,nA]
  refine a0a ⟨_,rfl⟩ ?_
  refine a0e (b:=decide (((j:Nat):Int)<2)) rfl (fun hj2=> ?_) (fun hj2=> ?_)
  ·replace hj2:=of_decide_eq_true hj2
   have hj2:j<2:=by omega
   have hX2:sdX A B j<2^n:=by unfold sdX;split;exact hA2;exact hB2
   have hXM:sdX A B j<M64:=by omega
   refine a0a ⟨_,_,rfl⟩ ?_
   refine a0a ⟨by show(0:Int)<=(j:Nat);omega,by show((j:Nat):Int)<2;omega⟩ ?_
   have hwt8:=hwt.mono (l25.trans (l6.trans (l7.trans l8)))
   refine a0j a0q rfl rfl hwt8 rfl ?_
   simp only[cA,nA]
   refine a0S (α:=Nat) (fun c=>[ii (((List.range c).filter (bit (sdX A B j))).map fun x=>wl.getD x 0).sum,ii (c:Nat)]) (fun c=>c<=n) (fun c=>n-c) (0) rfl (Nat.zero_le _) fun c hQ=> ?_
   simp only[cA,nA]
   refine a0a ⟨_,rfl⟩ ?_
   refine a0a ⟨_,rfl⟩ ?_
   refine a0e (b:=decide (((c:Nat):Int)<(wl.length:Nat))) rfl (fun hc=> ?_) (fun hc=> ?_)
   ·replace hc:=of_decide_eq_true hc
    have hcl:c<wl.length:=by omega
    have hcx:wl[c]? =some wl[c]:=List.getElem?_eq_getElem hcl
    have hc9:=hz9 _ (List.getElem_mem hcl)
    have hsm:=c6b (X:=sdX A B j) (i:=c) hz9 (by omega) (by omega)
    refine a0k a0q rfl rfl rfl rfl (fun _=>rfl) hwt8 hcx rfl (fun _=>rfl) fun _=> ?_
    simp only[cA,nA]
    refine a0a ⟨_,d1C rfl rfl rfl hj2⟩ ?_
    refine a0a ⟨_,_,rfl⟩ ?_
    refine a0a (by show(0:Int)<=(c:Nat);omega) ?_
    refine a0e (b:=bit (sdX A B j) c) (b7D (d1C rfl rfl rfl hj2) hXM rfl (by omega)) (fun hbc=> ?_) (fun hbc=> ?_)
    ·skip
     refine a0a ⟨_,rfl⟩ ?_
     refine a0a ⟨_,rfl⟩ ?_
     exact⟨c+1,by omega,(a1s (by rw[b3o rfl rfl (by omega) (by omega),List.range_succ,List.filter_append,List.filter_cons,if_pos hbc,List.map_append,List.sum_append];show _=ii (_+([wl.getD c 0].sum));rw[List.sum_cons,List.sum_nil,Int.add_zero,List.getD_eq_getElem?_getD,hcx];rfl) (a0x rfl (by omega))),⟨by omega,rfl⟩⟩
    ·skip
     exact⟨c+1,by omega,(a1s (by rw[List.range_succ,List.filter_append,List.filter_cons,if_neg (by simp[hbc]),List.filter_nil,List.append_nil];rfl) (a0x rfl (by omega))),⟨by omega,rfl⟩⟩
   ·replace hc:=of_decide_eq_false hc
    have hcn:c=n:=by omega
    subst hcn
    rw[d6b hX2 (by omega)]
    have hsu:((els (sdX A B j)).map fun x=>wl.getD x 0).sum=c7U wl (sdX A B j):=rfl
    have hco:d3r c es (sdX A B j)= .tuple #[.bool (cnB es (sdX A B j)),ii 0]:=if_pos hX2
    have hgn:=c5Z (es:=es) (wl:=wl) (lo:=lo) (hi:=hi) (A:=A) (B:=B) hj2 rfl rfl
    refine a0J (b0T (hT2.mono (l25.trans (l6.trans (l7.trans l8)))) (hw.mono (l25.trans (l6.trans (l7.trans l8)))) hg hXM) (a1s rfl (d1C rfl rfl rfl hj2)) fun H9 l9=> ?_
    simp only[cA,nA]
    rw[hco]
    refine a0a ⟨_,rfl,by simp⟩ ?_
    refine a0a ⟨_,rfl,by simp⟩ ?_
    refine a0a ⟨_,rfl⟩ ?_
    refine a0e (b:=gjB (alB es wl lo hi A) (alB es wl lo hi B) j) rfl (fun hgj=> ?_) (fun hgj=> ?_)
    ·skip
     refine a0a ⟨_,rfl⟩ ?_
     refine a8J rfl ?_
     refine a0a ⟨_,rfl⟩ ?_
     refine a0e (b:=cnB es (sdX A B j)) rfl (fun hcb=> ?_) (fun hcb=> ?_)
     ·skip
      refine a0a ⟨_,rfl⟩ ?_
      refine a0a ⟨_,rfl⟩ ?_
      refine a0e (b:=decide (c7U wl (sdX A B j)≥lo)) rfl (fun hsl=> ?_) (fun hsl=> ?_)
      ·replace hsl:=of_decide_eq_true hsl
       refine a0a ⟨_,rfl⟩ ?_
       exact⟨j+1,by omega,(a1s (by rw[hgn,hgj];show Value.bool (decide (c7U wl (sdX A B j)<=hi))=_;unfold alB;rw[hcb,decide_eq_true hsl];simp) (a0x rfl (by omega))),⟨by omega,l8.trans l9⟩⟩
      ·replace hsl:=of_decide_eq_false hsl
       exact⟨j+1,by omega,(a1s (by rw[hgn];unfold alB;rw[decide_eq_false hsl];simp;rfl) (a0x rfl (by omega))),⟨by omega,l8.trans l9⟩⟩
     ·skip
      exact⟨j+1,by omega,(a1s (by rw[hgn];unfold alB;rw[show cnB es (sdX A B j)=false by simpa using hcb];simp;rfl) (a0x rfl (by omega))),⟨by omega,l8.trans l9⟩⟩
    ·skip
     exact⟨j+1,by omega,(a1s (by rw[hgn,show gjB (alB es wl lo hi A) (alB es wl lo hi B) j=false by simpa using hgj];simp;rfl) (a0x rfl (by omega))),⟨by omega,l8.trans l9⟩⟩
  ·replace hj2:=of_decide_eq_false hj2
   have hje:j=2:=by omega
   subst hje
   have hg2:gjB (alB es wl lo hi A) (alB es wl lo hi B) 2=(alB es wl lo hi A&&alB es wl lo hi B):=by simp[gjB]
   rw[hg2]
   refine a1e (b9S (h9.mono (l6.trans (l7.trans l8))) x) rfl ?_
   simp only[cA,nA]
   rw[c6a hxm,hAe,hBe]
   refine a0a ⟨_,rfl⟩ ?_
   refine a0a ⟨_,rfl⟩ ?_
   refine a0y (d6t rfl rfl) ?_
   have hbs:=c2I (es:=es) (wl:=wl) (lo:=lo) (hi:=hi) (s:=S) hx
   rw[hAe,hBe]at hbs
   have hbl:(a9z es wl lo hi S t (t.take i)).length<=64:=Nat.le_trans (List.length_filter_le _ _) (by rw[List.length_take];omega)
   refine a0e (b:=alB es wl lo hi A&&alB es wl lo hi B) rfl (fun hab=> ?_) (fun hab=> ?_)
   ·skip
    refine a0a ⟨_,rfl⟩ ?_
    exact⟨i+1,by omega,(a7m rfl (by rw[hbs,if_pos hab];exact a0x rfl (by omega)) (a0x rfl (by omega))),⟨by omega,l6.trans (l7.trans l8)⟩⟩
   ·skip
    exact⟨i+1,by omega,(a7m rfl (by rw[hbs,if_neg (by simp[hab])];rfl) (a0x rfl (by omega))),⟨by omega,l6.trans (l7.trans l8)⟩⟩
 ·replace h:=of_decide_eq_false h
  have hie:i=t.length:=by omega
  rw[List.take_of_length_le (show t.length<=i by omega)]
  refine a0j a0q rfl rfl (h9.mono l6) rfl ?_
  simp only[cA,nA]
  refine a0a ⟨_,rfl⟩ ?_
  refine a0a ⟨_,rfl⟩ ?_
  exact a0f (by show Value.bool (((a9z es wl lo hi S t t).length:Int)==((a9z es wl lo hi S t t).length:Nat))=_;rw[beq_self_eq_true]) ⟨l1.trans (l2.trans (l25.trans l6)),rfl⟩
end Go.Proofs.YtkcjbfoejpfbbaaGreatDoor
