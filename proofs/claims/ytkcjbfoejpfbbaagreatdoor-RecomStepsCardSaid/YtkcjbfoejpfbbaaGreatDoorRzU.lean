/- MADE BY mkRz.py: trees as definitions. -/
import Derived.Test.YtkcjbfoejpfbbaaGreatDoorRzA
import Derived.Test.YtkcjbfoejpfbbaaGreatDoorRzM
import Derived.Test.YtkcjbfoejpfbbaaGreatDoorGaT
import Derived.Test.YtkcjbfoejpfbbaaGreatDoorGlT
import Derived.Test.YtkcjbfoejpfbbaaGreatDoorGmT
import Derived.Test.YtkcjbfoejpfbbaaGreatDoorGqT
import Derived.Test.YtkcjbfoejpfbbaaGreatDoorGrT
import Derived.Test.YtkcjbfoejpfbbaaGreatDoorGtT
import Derived.Test.YtkcjbfoejpfbbaaGreatDoorGwT
import Derived.Test.YtkcjbfoejpfbbaaGreatDoorGxT
import Derived.Test.YtkcjbfoejpfbbaaGreatDoorLgT
import Derived.Test.YtkcjbfoejpfbbaaGreatDoorWdT
import Derived.Test.YtkcjbfoejpfbbaaGreatDoorRzL
namespace Go.Proofs.YtkcjbfoejpfbbaaGreatDoor
open Go.Proofs.Tryz
open Go.RowKit Go.RX Go.RZ Go.GS
set_option maxRecDepth 100000
@[reducible] def bt {α:Type} (f k:Nat) (a b:α):α:=bif Nat.blt f k then a else b
@[reducible] def lf (f c n:Nat) (t:Tree):Option (Nat×Tree):=bif Nat.beq f c then some (n,t)else none
noncomputable def tab (f:FuncId):Option (Nat×Tree):=
 bt f 150 (bt f 83 (bt f 42 (bt f 29 (bt f 21 (bt f 12 (bt f 10 (lf f 7 0 a7h) (lf f 10 2 c0u)) (bt f 19 (lf f 12 3 c0E) (lf f 19 4 c0F))) (bt f 24 (bt f 22 (lf f 21 2 b9F) (lf f 22 4 b4L)) (bt f 27 (lf f 24 2 b9G) (lf f 27 3 b4K)))) (bt f 36 (bt f 31 (bt f 30 (lf f 29 2 b1F) (lf f 30 2 c2A)) (bt f 33 (lf f 31 4 c9b) (lf f 33 2 c2s))) (bt f 39 (bt f 38 (lf f 36 1 d3f) (lf f 38 4 c2o)) (bt f 40 (lf f 39 2 c0a) (bt f 41 (lf f 40 2 c8V) (lf f 41 1 c1K)))))) (bt f 64 (bt f 52 (bt f 50 (bt f 43 (lf f 42 3 c1L) (lf f 43 2 d4j)) (bt f 51 (lf f 50 1 b9U) (lf f 51 1 b9W))) (bt f 54 (bt f 53 (lf f 52 1 b9Y) (lf f 53 2 b9I)) (bt f 55 (lf f 54 1 b4A) (lf f 55 2 c0w)))) (bt f 78 (bt f 68 (bt f 65 (lf f 64 3 c2k) (lf f 65 3 c0C)) (bt f 69 (lf f 68 1 c0m) (lf f 69 2 c2Q))) (bt f 80 (bt f 79 (lf f 78 2 b1C) (lf f 79 3 c0Q)) (bt f 81 (lf f 80 2 b4I) (bt f 82 (lf f 81 2 c2B) (lf f 82 2 b1A))))))) (bt f 108 (bt f 95 (bt f 91 (bt f 85 (bt f 84 (lf f 83 2 b5c) (lf f 84 1 c0M)) (bt f 89 (lf f 85 1 b1O) (lf f 89 1 b5r))) (bt f 93 (bt f 92 (lf f 91 2 c9f) (lf f 92 4 c2r)) (bt f 94 (lf f 93 1 b5l) (lf f 94 1 a8B)))) (bt f 100 (bt f 98 (bt f 97 (lf f 95 1 b5p) (lf f 97 2 c2p)) (bt f 99 (lf f 98 2 b1K) (lf f 99 2 c3v))) (bt f 103 (bt f 102 (lf f 100 4 c2m) (lf f 102 2 c8X)) (bt f 104 (lf f 103 2 b4u) (bt f 105 (lf f 104 2 b9S) (lf f 105 2 c9j)))))) (bt f 126 (bt f 112 (bt f 110 (bt f 109 (lf f 108 2 b9z) (lf f 109 2 b9N)) (bt f 111 (lf f 110 3 c0k) (lf f 111 2 c0o))) (bt f 114 (bt f 113 (lf f 112 2 b9K) (lf f 113 2 b4C)) (bt f 125 (lf f 114 2 c0y) (lf f 125 0 c2c)))) (bt f 132 (bt f 130 (bt f 127 (lf f 126 2 c2i) (lf f 127 2 c2g)) (bt f 131 (lf f 130 2 c0e) (lf f 131 2 c2E))) (bt f 134 (bt f 133 (lf f 132 1 c0K) (lf f 133 3 c2V)) (bt f 135 (lf f 134 3 c0I) (bt f 149 (lf f 135 4 c0G) (lf f 149 2 b9M)))))))) (bt f 195 (bt f 170 (bt f 161 (bt f 154 (bt f 152 (bt f 151 (lf f 150 2 b4J) (lf f 151 2 c0P)) (bt f 153 (lf f 152 2 a8F) (lf f 153 5 c2C))) (bt f 158 (bt f 155 (lf f 154 1 b5d) (lf f 155 2 b9B)) (bt f 159 (lf f 158 1 b1N) (lf f 159 1 b5k)))) (bt f 165 (bt f 163 (bt f 162 (lf f 161 2 c2e) (lf f 162 5 b4Y)) (bt f 164 (lf f 163 2 b5o) (lf f 164 1 c2q))) (bt f 167 (bt f 166 (lf f 165 1 b8O) (lf f 166 1 b8N)) (bt f 168 (lf f 167 2 b5j) (bt f 169 (lf f 168 3 b4W) (lf f 169 1 a8C)))))) (bt f 180 (bt f 176 (bt f 172 (bt f 171 (lf f 170 1 b9D) (lf f 171 1 c8Z)) (bt f 173 (lf f 172 1 c0c) (lf f 173 2 b5q))) (bt f 178 (bt f 177 (lf f 176 3 c0i) (lf f 177 2 c0g)) (bt f 179 (lf f 178 2 b9P) (lf f 179 2 c0A)))) (bt f 186 (bt f 184 (bt f 183 (lf f 180 2 b4E) (lf f 183 2 c2G)) (bt f 185 (lf f 184 2 c3h) (lf f 185 3 c2X))) (bt f 188 (bt f 187 (lf f 186 1 c2Z) (lf f 187 2 c3n)) (bt f 193 (lf f 188 1 c3p) (bt f 194 (lf f 193 2 b9R) (lf f 194 2 c0O))))))) (bt f 225 (bt f 215 (bt f 199 (bt f 197 (bt f 196 (lf f 195 2 a8G) (lf f 196 1 c0N)) (bt f 198 (lf f 197 2 b1Q) (lf f 198 2 b1P))) (bt f 213 (bt f 200 (lf f 199 1 a7o) (lf f 200 4 c2D)) (bt f 214 (lf f 213 2 c3y) (lf f 214 2 c3x)))) (bt f 219 (bt f 217 (bt f 216 (lf f 215 2 b5m) (lf f 216 2 b1L)) (bt f 218 (lf f 217 2 b1M) (lf f 218 2 b3V))) (bt f 221 (bt f 220 (lf f 219 2 b3U) (lf f 220 2 b4w)) (bt f 223 (lf f 221 2 a8E) (bt f 224 (lf f 223 1 c2I) (lf f 224 2 c2K)))))) (bt f 247 (bt f 229 (bt f 227 (bt f 226 (lf f 225 2 c3d) (lf f 226 2 c3b)) (bt f 228 (lf f 227 1 c3j) (lf f 228 2 c3f))) (bt f 244 (bt f 233 (lf f 229 4 c3r) (lf f 233 2 b4G)) (bt f 245 (lf f 244 2 c3z) (bt f 246 (lf f 245 2 c3B) (lf f 246 2 a8D))))) (bt f 251 (bt f 249 (bt f 248 (lf f 247 1 c2M) (lf f 248 1 c2O)) (bt f 250 (lf f 249 2 c3l) (lf f 250 3 b5h))) (bt f 263 (bt f 262 (lf f 251 3 c3t) (lf f 262 1 c3A)) (bt f 264 (lf f 263 2 b5n) (bt f 268 (lf f 264 2 b5f) (lf f 268 1 b8P))))))))
def tzR:Nat->Nat->Nat
 |0,_=>0
 |n+1,s=>bif Nat.beq (Nat.mod s 2) 1 then 0 else Nat.succ (tzR n (Nat.div s 2))
def d7j (s:Nat):Nat:=bif Nat.beq s 0 then 0 else Nat.succ (Nat.log2 s)
def d7k (vs:List AV):Option AV:=match vs with
 |[.int .u64 (.ofNat s)]=>bif Nat.blt 0 s&&Nat.blt s 18446744073709551616 then some (.int .i64 (.ofNat (tzR 64 s)))else none
 |_=>none
def d7l (vs:List AV):Option AV:=match vs with
 |[.int .u64 (.ofNat s)]=>bif Nat.blt s 18446744073709551616 then some (.int .i64 (.ofNat (d7j s)))else none
 |_=>none
def d7m (vs:List AV):Option AV:=match vs with
 |[.int .u64 (.ofNat s)]=>bif Nat.blt s 18446744073709551616 then some (.int .i64 (.ofNat (card s)))else none
 |_=>none
def d7n (vs:List AV):Option AV:=match vs with
 |[.int .u64 (.ofNat x),.int .u64 (.ofNat y)]=>bif Nat.blt x 18446744073709551616&&Nat.blt y 18446744073709551616 then some (.tup [.int .u64 (.ofNat (Nat.div (Nat.mul x y) 18446744073709551616)),.int .u64 (.ofNat (Nat.mod (Nat.mul x y) 18446744073709551616))])else none
 |_=>none
def d7o (vs:List AV):Option AV:=match vs with
 |[.int .u64 (.ofNat hi),.int .u64 (.ofNat lo),.int .u64 (.ofNat y)]=>bif Nat.blt hi y&&Nat.blt lo 18446744073709551616&&Nat.blt y 18446744073709551616 then some (.tup [.int .u64 (.ofNat (Nat.div (Nat.add (Nat.mul hi 18446744073709551616) lo) y)),.int .u64 (.ofNat (Nat.mod (Nat.add (Nat.mul hi 18446744073709551616) lo) y))])else none
 |_=>none
def orv (f:FuncId) (vs:List AV):Option AV:=
 bif Nat.beq f 101 then d7k vs
 else bif Nat.beq f 160 then d7l vs
 else bif Nat.beq f 128 then d7m vs
 else bif Nat.beq f 260 then d7n vs
 else bif Nat.beq f 261 then d7o vs
 else none
def own (f:FuncId) (vs:List AV):Option AV:=
 match vs with
 |[.int .u64 (.ofNat x),.int .u64 (.ofNat y),.int .u64 (.ofNat c)]=>
  bif Nat.blt x 18446744073709551616&&Nat.blt y 18446744073709551616&&Nat.ble c 1 then
   bif Nat.beq f 242 then some (.tup [.int .u64 (.ofNat (Nat.mod (Nat.add (Nat.add x y) c) 18446744073709551616)),.int .u64 (.ofNat (Nat.div (Nat.add (Nat.add x y) c) 18446744073709551616))])
   else bif Nat.beq f 243 then some (.tup [.int .u64 (.ofNat (Nat.mod (Nat.sub (Nat.sub (Nat.add x 18446744073709551616) y) c) 18446744073709551616)),.int .u64 (.ofNat (bif Nat.blt x (Nat.add y c)then 1 else 0))])
   else none
  else none
 |_=>none
noncomputable def d4E:List AV->Option (List (Nat×Nat))
 |[]=>some []
 | .int .i64 (.ofNat a):: .int .i64 (.ofNat b)::r=>gd (Nat.ble a 64&&Nat.ble b 64) (match d4E r with|some q=>some ((a,b)::q)|none=>none)
 |_=>none
def d5X:AV->Bool
 | .sl _ _ n c=>Nat.ble n c&&Nat.ble c 1000000
 | .nsl=>true
 |_=>false
def d8l (k j:Nat):AV->Bool
 | .sl q _ _ _=>not (Nat.beq q k)&&not (Nat.beq q j)
 |_=>true
def d2G:AV->List Nat
 | .sl q _ _ _=>[q]
 |_=>[]
def d4F (y:Nat×(Nat×Nat)):List AV:=[.int .i64 (.ofNat y.1),.agg [.int .i64 (.ofNat y.2.1),.int .i64 (.ofNat y.2.2)]]
noncomputable def d1P (s:S) (k:Nat):Option (List (List AV)×List Nat×List Nat):=match s.get k with
 |some (.cells [.int .u64 (.ofNat p)] T)=>gd (Nat.beq T 34&&Nat.blt p M64) (some ((els p).map (fun x=>[.int .i64 (.ofNat x)]),[k],[]))
 |_=>none
noncomputable def d1Q (s:S) (k j:Nat):Option (List (List AV)×List Nat×List Nat):=match s.get k,s.get j with
 |some (.cells [_,es] _),some (.cells [.int .u64 (.ofNat p)] T)=>gd (Nat.beq T 34&&Nat.blt p M64&&not (Nat.beq k j)&&d5X es&&d8l k j es) (match rdS prog s 100 es with
  |some l=>match d4E l with
   |some el=>gd (Nat.ble (len el) 1000000) (some ((c2y p 0 el).map d4F,[k,j],d2G es))
   |none=>none
  |none=>none)
 |_,_=>none
noncomputable def d1R (s:S) (k:Nat):Option (List (List AV)×List Nat×List Nat):=match s.get k with
 |some (.cells [.int .u64 (.ofNat p)] T)=>gd (Nat.beq T 34&&Nat.blt p M64) (some ((c2v p).map (fun x=>[.int .u64 (.ofNat x)]),[k],[]))
 |_=>none
noncomputable def itb (f:FuncId) (cs:List AV) (s:S):Option (List (List AV)×List Nat×List Nat):=match cs with
 |[.ptr k 0]=>bif Nat.beq f 220 then d1P s k else bif Nat.beq f 233 then d1R s k else none
 |[.ptr k 0,.ptr j 0]=>bif Nat.beq f 168 then d1Q s k j else none
 |_=>none
def orc (f:FuncId) (vs:List AV) (s:S) (_:Nat):Option (List (AV×S)):=match orv f vs with|some v=>some [(v,s)]|none=>none
def kty (t:TypeId):Bool:=Nat.beq t 142||Nat.beq t 100||Nat.beq t 81||Nat.beq t 53
def pur (f:FuncId):Bool:=not (Nat.beq f 54||Nat.beq f 69||Nat.beq f 81||Nat.beq f 82||Nat.beq f 113||Nat.beq f 127||Nat.beq f 131||Nat.beq f 150||Nat.beq f 153||Nat.beq f 162||Nat.beq f 164||Nat.beq f 168||Nat.beq f 180||Nat.beq f 185||Nat.beq f 200||Nat.beq f 220||Nat.beq f 225||Nat.beq f 228||Nat.beq f 229||Nat.beq f 233||Nat.beq f 250||Nat.beq f 251||Nat.beq f 264)
end Go.Proofs.YtkcjbfoejpfbbaaGreatDoor
/- MADE BY mkRz.py: the table of trees holds. -/
namespace Go.RZ
open Go.RowKit Go.RX
def b6M (P:Program) (T:FuncId->Option (Nat×Tree)):Prop:=∀g np t,T g=some (np,t)->a4w P g=true/\(P.funcs[g]?).map (fun fn=>fn.params.size+fn.nfree)=some np/\∃E A J C,tree P E A J C g=some t
theorem c3J {P:Program} {c np:Nat} {t:Tree} (h:a4w P c=true/\(P.funcs[c]?).map (fun fn=>fn.params.size+fn.nfree)=some np/\∃E A J C,tree P E A J C c=some t):b6M P (fun f=>bif Nat.beq f c then some (np,t)else none):=fun g np' t' hg=>by
 cases hb:Nat.beq g c with
 |false=>simp only[hb,cond_false]at hg;cases hg
 |true=>
  simp only[hb,cond_true,Option.some.injEq,Prod.mk.injEq]at hg
  obtain⟨rfl,rfl⟩:=hg
  rw[a1I hb];exact h
theorem a0g {P:Program} {c np:Nat} {t:Tree} {E:List Nat} {A:List (Nat×Bool)} {J:List Jn} {C:List b3z} (h:tree P E A J C c=some t) (h1:a4w P c=true:=by kernel_rfl) (h2:(P.funcs[c]?).map (fun fn=>fn.params.size+fn.nfree)=some np:=by kernel_rfl):b6M P (fun f=>bif Nat.beq f c then some (np,t)else none):=c3J ⟨h1,h2,_,_,_,_,h⟩
theorem a0d {P:Program} {c:Nat} {A B:FuncId->Option (Nat×Tree)} (ha:b6M P A) (hb:b6M P B):b6M P (fun f=>bif Nat.blt f c then A f else B f):=fun g np t hg=>by
 cases h:Nat.blt g c with
 |true=>simp only[h,cond_true]at hg;exact ha g np t hg
 |false=>simp only[h,cond_false]at hg;exact hb g np t hg
end Go.RZ
namespace Go.Proofs.YtkcjbfoejpfbbaaGreatDoor
open Go.Proofs.Tryz
open Go.RowKit Go.RX Go.RZ
set_option maxRecDepth 100000 in
theorem d4G:b6M prog tab:=
 a0d (a0d (a0d (a0d (a0d (a0d (a0d (a0g d1r)
    (a0g c0v))
   (a0d (a0g d1g)
    (a0g d1h)))
   (a0d (a0d (a0g d1a)
    (a0g b4M))
   (a0d (a0g b9H)
    (a0g c6N))))
 (a0d (a0d (a0d (a0g c1G)
    (a0g d1G))
   (a0d (a0g d4h)
    (a0g d1E)))
  (a0d (a0d (a0g d6q)
    (a0g b3j))
   (a0d (a0g c0b)
    (a0d (a0g c8W)
     (a0g d1p))))))
  (a0d (a0d (a0d (a0d (a0g d1q)
    (a0g d7a))
   (a0d (a0g b9V)
    (a0g b9X)))
   (a0d (a0d (a0g b9Z)
    (a0g b9J))
   (a0d (a0g b4B)
    (a0g c0x))))
 (a0d (a0d (a0d (a0g c2l)
    (a0g c0D))
   (a0d (a0g c0n)
    (a0g c2R)))
  (a0d (a0d (a0g b1D)
    (a0g d1m))
   (a0d (a0g c6L)
    (a0d (a0g d1H)
     (a0g c0R)))))))
(a0d (a0d (a0d (a0d (a0d (a0g c7h)
    (a0g d1i))
   (a0d (a0g c3G)
    (a0g c7q)))
  (a0d (a0d (a0g c9g)
    (a0g d1D))
   (a0d (a0g c7k)
    (a0g b6G))))
 (a0d (a0d (a0d (a0g c7o)
    (a0g d1B))
   (a0d (a0g c3C)
    (a0g c3w)))
  (a0d (a0d (a0g c2n)
    (a0g c8Y))
   (a0d (a0g b4v)
    (a0d (a0g b9T)
     (a0g d4D))))))
(a0d (a0d (a0d (a0d (a0g b9A)
    (a0g b9O))
   (a0d (a0g c0l)
    (a0g c0p)))
  (a0d (a0d (a0g b9L)
    (a0g b4D))
   (a0d (a0g c0z)
    (a0g c2d))))
 (a0d (a0d (a0d (a0g c2j)
    (a0g c2h))
   (a0d (a0g c0f)
    (a0g c2F)))
  (a0d (a0d (a0g c0L)
    (a0g c2W))
   (a0d (a0g c0J)
    (a0d (a0g c0H)
     (a0g d1b))))))))
 (a0d (a0d (a0d (a0d (a0d (a0d (a0g c6M)
    (a0g d1l))
   (a0d (a0g b6K)
    (a0g d1I)))
   (a0d (a0d (a0g b5e)
    (a0g b9C))
   (a0d (a0g c3F)
    (a0g c7j))))
 (a0d (a0d (a0d (a0g c2f)
    (a0g c7d))
   (a0d (a0g c7n)
    (a0g d1C)))
  (a0d (a0d (a0g d0h)
    (a0g d0g))
   (a0d (a0g c7i)
    (a0d (a0g b4X)
     (a0g b6H))))))
  (a0d (a0d (a0d (a0d (a0g b9E)
    (a0g c9a))
   (a0d (a0g c0d)
    (a0g c7p)))
   (a0d (a0d (a0g c0j)
    (a0g c0h))
   (a0d (a0g b9Q)
    (a0g c0B))))
 (a0d (a0d (a0d (a0g b4F)
    (a0g c2H))
   (a0d (a0g c3i)
    (a0g c2Y)))
  (a0d (a0d (a0g c3a)
    (a0g c3o))
   (a0d (a0g c3q)
    (a0d (a0g d1c)
     (a0g d1k)))))))
(a0d (a0d (a0d (a0d (a0d (a0g b6L)
    (a0g d1j))
   (a0d (a0g c3I)
    (a0g c3H)))
  (a0d (a0d (a0g b3k)
    (a0g d1J))
   (a0d (a0g d1L)
    (a0g d1K))))
 (a0d (a0d (a0d (a0g c7l)
    (a0g c3D))
   (a0d (a0g c3E)
    (a0g c5Z)))
  (a0d (a0d (a0g c5Y)
    (a0g b4x))
   (a0d (a0g b6J)
    (a0d (a0g c2J)
     (a0g c2L))))))
(a0d (a0d (a0d (a0d (a0g c3e)
    (a0g c3c))
   (a0d (a0g c3k)
    (a0g c3g)))
  (a0d (a0d (a0g c3s)
    (a0g b4H))
   (a0d (a0g d1M)
    (a0d (a0g d1O)
     (a0g b6I)))))
 (a0d (a0d (a0d (a0g c2N)
    (a0g c2P))
   (a0d (a0g c3m)
    (a0g b5i)))
  (a0d (a0d (a0g c3u)
    (a0g d1N))
   (a0d (a0g c7m)
    (a0d (a0g b5g)
     (a0g b8Q))))))))
end Go.Proofs.YtkcjbfoejpfbbaaGreatDoor
