/- Digits to the base 2^32: plain. -/
import Derived.Test.YtkcjbfoejpfbbaaGreatDoorWdG
import Derived.Test.YtkcjbfoejpfbbaaGreatDoorWdT
import Derived.Test.YtkcjbfoejpfbbaaGreatDoorRxT
namespace Go.WD
open Go.RX
@[irreducible] def BP (k:Nat):Nat:=2^(32*k)
theorem BP_zero:BP 0=1:=by unfold BP;rfl
theorem BP_succ (k:Nat):BP (k+1)=BP k*4294967296:=by unfold BP;rw[Nat.mul_succ,Nat.pow_add]
theorem BP_pos (k:Nat):0<BP k:=by unfold BP;exact Nat.pow_pos (by omega)
theorem d3v (i j:Nat):BP (i+j)=BP i*BP j:=by unfold BP;rw[Nat.mul_add,Nat.pow_add]
theorem a5x {i j:Nat} (h:i<=j):BP i<=BP j:=by unfold BP;exact Nat.pow_le_pow_right (by omega) (by omega)
theorem BP_lt_iff {i j:Nat}:BP i<BP j↔i<j:=by
 constructor
 ·intro h;rcases Nat.lt_or_ge i j with h1|h1
  ·exact h1
  ·have:=a5x h1;omega
 ·intro h
  have h1:=a5x (show i+1<=j from h)
  have h2:=BP_pos i
  rw[BP_succ]at h1;omega
theorem d6c (k:Nat):BP (2*k)=PW k:=by unfold BP PW;rw[<-Nat.mul_assoc]
theorem c0u {l:List Nat} {k:Nat} (h:k<l.length):l[k]? =some (l.getD k 0):=by
 rw[List.getD_eq_getElem?_getD,List.getElem?_eq_getElem h];rfl
theorem b6j {l:List Nat} {k:Nat} (h:k<l.length):l.take (k+1)=l.take k++[l.getD k 0]:=by
 rw[List.take_add_one,c0u h];rfl
theorem a9m {l:List Nat} {k:Nat} (h:k<l.length):l.drop k=l.getD k 0::l.drop (k+1):=by
 have:=List.drop_eq_getElem_cons h
 rw[this]
 congr 1
 rw[List.getD_eq_getElem?_getD,List.getElem?_eq_getElem h];rfl
theorem a6T {l:List Nat} {k x:Nat} (h:k<l.length):(l.set k x).getD k 0=x:=by
 rw[List.getD_eq_getElem?_getD,List.getElem?_set,if_pos rfl,if_pos h];rfl
theorem a1O {l:List Nat} {k j x:Nat} (h:j≠k):(l.set k x).getD j 0=l.getD j 0:=by
 rw[List.getD_eq_getElem?_getD,List.getD_eq_getElem?_getD,List.getElem?_set,if_neg (fun e=>h e.symm)]
theorem c4U {l:List Nat} {k j x:Nat} (h:k<j):(l.set k x).drop j=l.drop j:=by
 apply List.ext_getElem?
 intro i
 rw[List.getElem?_drop,List.getElem?_drop,List.getElem?_set,if_neg (by omega)]
theorem a4x (n k:Nat):(List.replicate n 0).getD k 0=0:=by
 rw[List.getD_eq_getElem?_getD,List.getElem?_replicate];split<;>rfl
theorem a7X {l:List Nat} {k:Nat} (h:l.length<=k):l.getD k 0=0:=by
 rw[List.getD_eq_getElem?_getD,List.getElem?_eq_none h];rfl
end Go.WD
/- Slices of digits in memory. -/
namespace Go.RX
open Go.RowKit
theorem Con.frame {P:Program} {f:FuncId} {args:List Value} {Hr H:PH} {V:Value->PH->Prop} (h:Con P f args Hr V) (hle:PH.le Hr H):
  Con P f args H fun u H'=>∃Hr',V u Hr'/\PH.le Hr' H'/\∀k ob,H k=some ob->Hr k=none->Hr' k=none/\H' k=some ob:=fun w hw=>by
 refine(h w (hle.In hw)).mono ?_
 rintro e w' ⟨v,Hr',he,hs,hV⟩
 have none_of:∀k ob,H k=some ob->Hr k=none->Hr' k=none:=fun k ob hk hr=>by
  cases e2:Hr' k with
  |none=>rfl
  |some o2=>
   have h2:=a0A (hw _ _ hk)
   rcases hs.dom k (by simp[e2])with h3|h3
   ·exact absurd hr h3
   ·omega
 refine⟨v,fun k=>match Hr' k with|some o=>some o|none=>if Hr k=none then H k else none,he,⟨hs.os,hs.tape,hs.output,hs.size,fun k hk hn=> ?_,fun k ob hk=> ?_,fun k hk=> ?_⟩,Hr',hV,fun k ob hk=> ?_,fun k ob hk hr=>⟨none_of k ob hk hr,?_⟩⟩
 ·refine hs.block k hk ?_
  cases e2:Hr k with
  |none=>rfl
  |some o2=>rw[hle _ _ e2]at hn;cases hn
 ·cases e2:Hr' k with
  |some o2=>simp only[e2]at hk;cases hk;exact hs.holds _ _ e2
  |none=>
   simp only[e2]at hk
   split at hk
   ·rename_i hr
    rw[hs.block k (a0A (hw _ _ hk)) hr]
    exact hw _ _ hk
   ·cases hk
 ·cases e2:Hr' k with
  |some o2=>
   rcases hs.dom k (by simp[e2])with h3|h3
   ·refine .inl fun hn=>h3 ?_
    cases e3:Hr k with
    |none=>rfl
    |some o3=>rw[hle _ _ e3]at hn;cases hn
   ·exact .inr h3
  |none=>
   simp only[e2]at hk
   split at hk
   ·exact .inl hk
   ·exact absurd rfl hk
 ·simp only[hk]
 ·simp only[none_of k ob hk hr,hr,if_true,hk]
theorem OwS.frame {Hr H Hr' H':PH} {e:TypeId} {sz n:Nat} {v:Value} {xs:List Value} (h:OwS Hr H e sz v n xs) (hk:∀k ob,H k=some ob->Hr k=none->Hr' k=none/\H' k=some ob):OwS Hr' H' e sz v n xs:=by
 obtain⟨h1,h2|⟨g,cap,cur,h2,h3,h4,h5⟩⟩:=h
 ·exact⟨h1,.inl h2⟩
 ·exact⟨h1,.inr ⟨g,cap,cur,h2,(hk _ _ h4 h3).1,(hk _ _ h4 h3).2,h5⟩⟩
end Go.RX
namespace Go.Proofs.YtkcjbfoejpfbbaaGreatDoor
open Go.RowKit Go.RX Go.WD
def iv (d:Nat):Value:= .int .i64 (d:Nat)
theorem d3w (f:Nat->Value):(Array.range (1*1)).map f= #[f 0]:=by
 apply Array.ext';simp
end Go.Proofs.YtkcjbfoejpfbbaaGreatDoor
