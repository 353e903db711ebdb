/- MADE BY mkRz.py: trees as definitions. -/
import Derived.Test.YtkcjbfoejpfbbaaGreatDoorRzA
import Derived.Test.YtkcjbfoejpfbbaaGreatDoorRzM
import Derived.Test.YtkcjbfoejpfbbaaGreatDoorGaT
import Derived.Test.YtkcjbfoejpfbbaaGreatDoorGlT
import Derived.Test.YtkcjbfoejpfbbaaGreatDoorGmT
import Derived.Test.YtkcjbfoejpfbbaaGreatDoorGqT
import Derived.Test.YtkcjbfoejpfbbaaGreatDoorGrT
import Derived.Test.YtkcjbfoejpfbbaaGreatDoorGtT
import Derived.Test.YtkcjbfoejpfbbaaGreatDoorGwT
import Derived.Test.YtkcjbfoejpfbbaaGreatDoorGxT
import Derived.Test.YtkcjbfoejpfbbaaGreatDoorLgT
import Derived.Test.YtkcjbfoejpfbbaaGreatDoorWdT
import Derived.Test.YtkcjbfoejpfbbaaGreatDoorRzL
namespace Go.Proofs.YtkcjbfoejpfbbaaGreatDoor
open Go.Proofs.Tryz
open Go.RowKit Go.RX Go.RZ Go.GS
set_option maxRecDepth 100000
noncomputable def tab (f:FuncId):Option (Nat×Tree):=
 bif Nat.blt f 150 then
  bif Nat.blt f 83 then
   bif Nat.blt f 42 then
    bif Nat.blt f 29 then
     bif Nat.blt f 21 then
      bif Nat.blt f 12 then
       bif Nat.blt f 10 then
        bif Nat.beq f 7 then some (0,a6S)else none
       else
        bif Nat.beq f 10 then some (2,b9v)else none
      else
       bif Nat.blt f 19 then
        bif Nat.beq f 12 then some (3,b9E)else none
       else
        bif Nat.beq f 19 then some (4,b9F)else none
     else
      bif Nat.blt f 24 then
       bif Nat.blt f 22 then
        bif Nat.beq f 21 then some (2,b8S)else none
       else
        bif Nat.beq f 22 then some (4,b4r)else none
      else
       bif Nat.blt f 27 then
        bif Nat.beq f 24 then some (2,b8T)else none
       else
        bif Nat.beq f 27 then some (3,b4q)else none
    else
     bif Nat.blt f 36 then
      bif Nat.blt f 31 then
       bif Nat.blt f 30 then
        bif Nat.beq f 29 then some (2,b0X)else none
       else
        bif Nat.beq f 30 then some (2,c0V)else none
      else
       bif Nat.blt f 33 then
        bif Nat.beq f 31 then some (4,c6U)else none
       else
        bif Nat.beq f 33 then some (2,c0P)else none
     else
      bif Nat.blt f 39 then
       bif Nat.blt f 38 then
        bif Nat.beq f 36 then some (1,d2j)else none
       else
        bif Nat.beq f 38 then some (4,c0H)else none
      else
       bif Nat.blt f 40 then
        bif Nat.beq f 39 then some (2,b9i)else none
       else
        bif Nat.blt f 41 then
         bif Nat.beq f 40 then some (2,c6N)else none
        else
         bif Nat.beq f 41 then some (1,c0p)else none
   else
    bif Nat.blt f 64 then
     bif Nat.blt f 52 then
      bif Nat.blt f 50 then
       bif Nat.blt f 43 then
        bif Nat.beq f 42 then some (3,c0q)else none
       else
        bif Nat.beq f 43 then some (2,d3t)else none
      else
       bif Nat.blt f 51 then
        bif Nat.beq f 50 then some (1,b9e)else none
       else
        bif Nat.beq f 51 then some (1,b9f)else none
     else
      bif Nat.blt f 54 then
       bif Nat.blt f 53 then
        bif Nat.beq f 52 then some (1,b9g)else none
       else
        bif Nat.beq f 53 then some (2,b8U)else none
      else
       bif Nat.blt f 55 then
        bif Nat.beq f 54 then some (1,b4h)else none
       else
        bif Nat.beq f 55 then some (2,b9x)else none
    else
     bif Nat.blt f 78 then
      bif Nat.blt f 68 then
       bif Nat.blt f 65 then
        bif Nat.beq f 64 then some (3,c0D)else none
       else
        bif Nat.beq f 65 then some (3,b9C)else none
      else
       bif Nat.blt f 69 then
        bif Nat.beq f 68 then some (1,b9q)else none
       else
        bif Nat.beq f 69 then some (2,c1f)else none
     else
      bif Nat.blt f 80 then
       bif Nat.blt f 79 then
        bif Nat.beq f 78 then some (2,b0W)else none
       else
        bif Nat.beq f 79 then some (3,b9O)else none
      else
       bif Nat.blt f 81 then
        bif Nat.beq f 80 then some (2,b4o)else none
       else
        bif Nat.blt f 82 then
         bif Nat.beq f 81 then some (2,c0W)else none
        else
         bif Nat.beq f 82 then some (2,b0S)else none
  else
   bif Nat.blt f 108 then
    bif Nat.blt f 95 then
     bif Nat.blt f 91 then
      bif Nat.blt f 85 then
       bif Nat.blt f 84 then
        bif Nat.beq f 83 then some (2,b4B)else none
       else
        bif Nat.beq f 84 then some (1,b9K)else none
      else
       bif Nat.blt f 89 then
        bif Nat.beq f 85 then some (1,b1i)else none
       else
        bif Nat.beq f 89 then some (1,b4U)else none
     else
      bif Nat.blt f 93 then
       bif Nat.blt f 92 then
        bif Nat.beq f 91 then some (2,c6W)else none
       else
        bif Nat.beq f 92 then some (4,c0N)else none
      else
       bif Nat.blt f 94 then
        bif Nat.beq f 93 then some (1,b4J)else none
       else
        bif Nat.beq f 94 then some (1,a7Z)else none
    else
     bif Nat.blt f 100 then
      bif Nat.blt f 98 then
       bif Nat.blt f 97 then
        bif Nat.beq f 95 then some (1,b4R)else none
       else
        bif Nat.beq f 97 then some (2,c0J)else none
      else
       bif Nat.blt f 99 then
        bif Nat.beq f 98 then some (2,b1b)else none
       else
        bif Nat.beq f 99 then some (2,c1t)else none
     else
      bif Nat.blt f 103 then
       bif Nat.blt f 102 then
        bif Nat.beq f 100 then some (4,c0F)else none
       else
        bif Nat.beq f 102 then some (2,c6P)else none
      else
       bif Nat.blt f 104 then
        bif Nat.beq f 103 then some (2,b4c)else none
       else
        bif Nat.blt f 105 then
         bif Nat.beq f 104 then some (2,b9c)else none
        else
         bif Nat.beq f 105 then some (2,c6Y)else none
   else
    bif Nat.blt f 126 then
     bif Nat.blt f 112 then
      bif Nat.blt f 110 then
       bif Nat.blt f 109 then
        bif Nat.beq f 108 then some (2,b8M)else none
       else
        bif Nat.beq f 109 then some (2,b8Y)else none
      else
       bif Nat.blt f 111 then
        bif Nat.beq f 110 then some (3,b9p)else none
       else
        bif Nat.beq f 111 then some (2,b9r)else none
     else
      bif Nat.blt f 114 then
       bif Nat.blt f 113 then
        bif Nat.beq f 112 then some (2,b8W)else none
       else
        bif Nat.beq f 113 then some (2,b4j)else none
      else
       bif Nat.blt f 125 then
        bif Nat.beq f 114 then some (2,b9y)else none
       else
        bif Nat.beq f 125 then some (0,c0v)else none
    else
     bif Nat.blt f 132 then
      bif Nat.blt f 130 then
       bif Nat.blt f 127 then
        bif Nat.beq f 126 then some (2,c0B)else none
       else
        bif Nat.beq f 127 then some (2,c0z)else none
      else
       bif Nat.blt f 131 then
        bif Nat.beq f 130 then some (2,b9m)else none
       else
        bif Nat.beq f 131 then some (2,c0Z)else none
     else
      bif Nat.blt f 134 then
       bif Nat.blt f 133 then
        bif Nat.beq f 132 then some (1,b9J)else none
       else
        bif Nat.beq f 133 then some (3,c1g)else none
      else
       bif Nat.blt f 135 then
        bif Nat.beq f 134 then some (3,b9I)else none
       else
        bif Nat.blt f 149 then
         bif Nat.beq f 135 then some (4,b9H)else none
        else
         bif Nat.beq f 149 then some (2,b8X)else none
 else
  bif Nat.blt f 195 then
   bif Nat.blt f 170 then
    bif Nat.blt f 161 then
     bif Nat.blt f 154 then
      bif Nat.blt f 152 then
       bif Nat.blt f 151 then
        bif Nat.beq f 150 then some (2,b4p)else none
       else
        bif Nat.beq f 151 then some (2,b9N)else none
      else
       bif Nat.blt f 153 then
        bif Nat.beq f 152 then some (2,a8f)else none
       else
        bif Nat.beq f 153 then some (5,c0X)else none
     else
      bif Nat.blt f 158 then
       bif Nat.blt f 155 then
        bif Nat.beq f 154 then some (1,b4C)else none
       else
        bif Nat.beq f 155 then some (2,b8O)else none
      else
       bif Nat.blt f 159 then
        bif Nat.beq f 158 then some (1,b1h)else none
       else
        bif Nat.beq f 159 then some (1,b4H)else none
    else
     bif Nat.blt f 165 then
      bif Nat.blt f 163 then
       bif Nat.blt f 162 then
        bif Nat.beq f 161 then some (2,c0x)else none
       else
        bif Nat.beq f 162 then some (5,b4v)else none
      else
       bif Nat.blt f 164 then
        bif Nat.beq f 163 then some (2,b4P)else none
       else
        bif Nat.beq f 164 then some (1,c0L)else none
     else
      bif Nat.blt f 167 then
       bif Nat.blt f 166 then
        bif Nat.beq f 165 then some (1,b7R)else none
       else
        bif Nat.beq f 166 then some (1,b7P)else none
      else
       bif Nat.blt f 168 then
        bif Nat.beq f 167 then some (2,b4F)else none
       else
        bif Nat.blt f 169 then
         bif Nat.beq f 168 then some (3,b4t)else none
        else
         bif Nat.beq f 169 then some (1,a8b)else none
   else
    bif Nat.blt f 180 then
     bif Nat.blt f 176 then
      bif Nat.blt f 172 then
       bif Nat.blt f 171 then
        bif Nat.beq f 170 then some (1,b8Q)else none
       else
        bif Nat.beq f 171 then some (1,c6R)else none
      else
       bif Nat.blt f 173 then
        bif Nat.beq f 172 then some (1,b9k)else none
       else
        bif Nat.beq f 173 then some (2,b4T)else none
     else
      bif Nat.blt f 178 then
       bif Nat.blt f 177 then
        bif Nat.beq f 176 then some (3,b9o)else none
       else
        bif Nat.beq f 177 then some (2,b9n)else none
      else
       bif Nat.blt f 179 then
        bif Nat.beq f 178 then some (2,b9a)else none
       else
        bif Nat.beq f 179 then some (2,b9A)else none
    else
     bif Nat.blt f 186 then
      bif Nat.blt f 184 then
       bif Nat.blt f 183 then
        bif Nat.beq f 180 then some (2,b4k)else none
       else
        bif Nat.beq f 183 then some (2,c1a)else none
      else
       bif Nat.blt f 185 then
        bif Nat.beq f 184 then some (2,c1m)else none
       else
        bif Nat.beq f 185 then some (3,c1h)else none
     else
      bif Nat.blt f 188 then
       bif Nat.blt f 187 then
        bif Nat.beq f 186 then some (1,c1i)else none
       else
        bif Nat.beq f 187 then some (2,c1p)else none
      else
       bif Nat.blt f 193 then
        bif Nat.beq f 188 then some (1,c1q)else none
       else
        bif Nat.blt f 194 then
         bif Nat.beq f 193 then some (2,b9b)else none
        else
         bif Nat.beq f 194 then some (2,b9M)else none
  else
   bif Nat.blt f 225 then
    bif Nat.blt f 215 then
     bif Nat.blt f 199 then
      bif Nat.blt f 197 then
       bif Nat.blt f 196 then
        bif Nat.beq f 195 then some (2,a8g)else none
       else
        bif Nat.beq f 196 then some (1,b9L)else none
      else
       bif Nat.blt f 198 then
        bif Nat.beq f 197 then some (2,b1k)else none
       else
        bif Nat.beq f 198 then some (2,b1j)else none
     else
      bif Nat.blt f 213 then
       bif Nat.blt f 200 then
        bif Nat.beq f 199 then some (1,a6U)else none
       else
        bif Nat.beq f 200 then some (4,c0Y)else none
      else
       bif Nat.blt f 214 then
        bif Nat.beq f 213 then some (2,c1x)else none
       else
        bif Nat.beq f 214 then some (2,c1v)else none
    else
     bif Nat.blt f 219 then
      bif Nat.blt f 217 then
       bif Nat.blt f 216 then
        bif Nat.beq f 215 then some (2,b4L)else none
       else
        bif Nat.beq f 216 then some (2,b1d)else none
      else
       bif Nat.blt f 218 then
        bif Nat.beq f 217 then some (2,b1f)else none
       else
        bif Nat.beq f 218 then some (2,b3u)else none
     else
      bif Nat.blt f 221 then
       bif Nat.blt f 220 then
        bif Nat.beq f 219 then some (2,b3s)else none
       else
        bif Nat.beq f 220 then some (2,b4e)else none
      else
       bif Nat.blt f 223 then
        bif Nat.beq f 221 then some (2,a8e)else none
       else
        bif Nat.blt f 224 then
         bif Nat.beq f 223 then some (1,c1b)else none
        else
         bif Nat.beq f 224 then some (2,c1c)else none
   else
    bif Nat.blt f 247 then
     bif Nat.blt f 229 then
      bif Nat.blt f 227 then
       bif Nat.blt f 226 then
        bif Nat.beq f 225 then some (2,c1k)else none
       else
        bif Nat.beq f 226 then some (2,c1j)else none
      else
       bif Nat.blt f 228 then
        bif Nat.beq f 227 then some (1,c1n)else none
       else
        bif Nat.beq f 228 then some (2,c1l)else none
     else
      bif Nat.blt f 244 then
       bif Nat.blt f 233 then
        bif Nat.beq f 229 then some (4,c1r)else none
       else
        bif Nat.beq f 233 then some (2,b4m)else none
      else
       bif Nat.blt f 245 then
        bif Nat.beq f 244 then some (2,c1z)else none
       else
        bif Nat.blt f 246 then
         bif Nat.beq f 245 then some (2,c1D)else none
        else
         bif Nat.beq f 246 then some (2,a8d)else none
    else
     bif Nat.blt f 251 then
      bif Nat.blt f 249 then
       bif Nat.blt f 248 then
        bif Nat.beq f 247 then some (1,c1d)else none
       else
        bif Nat.beq f 248 then some (1,c1e)else none
      else
       bif Nat.blt f 250 then
        bif Nat.beq f 249 then some (2,c1o)else none
       else
        bif Nat.beq f 250 then some (3,b4E)else none
     else
      bif Nat.blt f 263 then
       bif Nat.blt f 262 then
        bif Nat.beq f 251 then some (3,c1s)else none
       else
        bif Nat.beq f 262 then some (1,c1B)else none
      else
       bif Nat.blt f 264 then
        bif Nat.beq f 263 then some (2,b4N)else none
       else
        bif Nat.blt f 268 then
         bif Nat.beq f 264 then some (2,b4D)else none
        else
         bif Nat.beq f 268 then some (1,b7T)else none
def tzR:Nat->Nat->Nat
 |0,_=>0
 |n+1,s=>bif Nat.beq (Nat.mod s 2) 1 then 0 else Nat.succ (tzR n (Nat.div s 2))
def d6f (s:Nat):Nat:=bif Nat.beq s 0 then 0 else Nat.succ (Nat.log2 s)
def d6g (vs:List AV):Option AV:=match vs with
 |[.int .u64 (.ofNat s)]=>bif Nat.blt 0 s&&Nat.blt s 18446744073709551616 then some (.int .i64 (.ofNat (tzR 64 s)))else none
 |_=>none
def d6h (vs:List AV):Option AV:=match vs with
 |[.int .u64 (.ofNat s)]=>bif Nat.blt s 18446744073709551616 then some (.int .i64 (.ofNat (d6f s)))else none
 |_=>none
def d6i (vs:List AV):Option AV:=match vs with
 |[.int .u64 (.ofNat s)]=>bif Nat.blt s 18446744073709551616 then some (.int .i64 (.ofNat (card s)))else none
 |_=>none
def d6j (vs:List AV):Option AV:=match vs with
 |[.int .u64 (.ofNat x),.int .u64 (.ofNat y)]=>bif Nat.blt x 18446744073709551616&&Nat.blt y 18446744073709551616 then some (.tup [.int .u64 (.ofNat (Nat.div (Nat.mul x y) 18446744073709551616)),.int .u64 (.ofNat (Nat.mod (Nat.mul x y) 18446744073709551616))])else none
 |_=>none
def d6k (vs:List AV):Option AV:=match vs with
 |[.int .u64 (.ofNat hi),.int .u64 (.ofNat lo),.int .u64 (.ofNat y)]=>bif Nat.blt hi y&&Nat.blt lo 18446744073709551616&&Nat.blt y 18446744073709551616 then some (.tup [.int .u64 (.ofNat (Nat.div (Nat.add (Nat.mul hi 18446744073709551616) lo) y)),.int .u64 (.ofNat (Nat.mod (Nat.add (Nat.mul hi 18446744073709551616) lo) y))])else none
 |_=>none
def orv (f:FuncId) (vs:List AV):Option AV:=
 bif Nat.beq f 101 then d6g vs
 else bif Nat.beq f 160 then d6h vs
 else bif Nat.beq f 128 then d6i vs
 else bif Nat.beq f 260 then d6j vs
 else bif Nat.beq f 261 then d6k vs
 else none
def own (f:FuncId) (vs:List AV):Option AV:=
 match vs with
 |[.int .u64 (.ofNat x),.int .u64 (.ofNat y),.int .u64 (.ofNat c)]=>
  bif Nat.blt x 18446744073709551616&&Nat.blt y 18446744073709551616&&Nat.ble c 1 then
   bif Nat.beq f 242 then some (.tup [.int .u64 (.ofNat (Nat.mod (Nat.add (Nat.add x y) c) 18446744073709551616)),.int .u64 (.ofNat (Nat.div (Nat.add (Nat.add x y) c) 18446744073709551616))])
   else bif Nat.beq f 243 then some (.tup [.int .u64 (.ofNat (Nat.mod (Nat.sub (Nat.sub (Nat.add x 18446744073709551616) y) c) 18446744073709551616)),.int .u64 (.ofNat (bif Nat.blt x (Nat.add y c)then 1 else 0))])
   else none
  else none
 |_=>none
noncomputable def d3E:List AV->Option (List (Nat×Nat))
 |[]=>some []
 | .int .i64 (.ofNat a):: .int .i64 (.ofNat b)::r=>gd (Nat.ble a 64&&Nat.ble b 64) (match d3E r with|some q=>some ((a,b)::q)|none=>none)
 |_=>none
def d4Y:AV->Bool
 | .sl _ _ n c=>Nat.ble n c&&Nat.ble c 1000000
 | .nsl=>true
 |_=>false
def d6Y (k j:Nat):AV->Bool
 | .sl q _ _ _=>not (Nat.beq q k)&&not (Nat.beq q j)
 |_=>true
def d1K:AV->List Nat
 | .sl q _ _ _=>[q]
 |_=>[]
def d3F (y:Nat×(Nat×Nat)):List AV:=[.int .i64 (.ofNat y.1),.agg [.int .i64 (.ofNat y.2.1),.int .i64 (.ofNat y.2.2)]]
noncomputable def d0t (s:S) (k:Nat):Option (List (List AV)×List Nat×List Nat):=match s.get k with
 |some (.cells [.int .u64 (.ofNat p)] T)=>gd (Nat.beq T 34&&Nat.blt p M64) (some ((els p).map (fun x=>[.int .i64 (.ofNat x)]),[k],[]))
 |_=>none
noncomputable def d0u (s:S) (k j:Nat):Option (List (List AV)×List Nat×List Nat):=match s.get k,s.get j with
 |some (.cells [_,es] _),some (.cells [.int .u64 (.ofNat p)] T)=>gd (Nat.beq T 34&&Nat.blt p M64&&not (Nat.beq k j)&&d4Y es&&d6Y k j es) (match rdS prog s 100 es with
  |some l=>match d3E l with
   |some el=>gd (Nat.ble (len el) 1000000) (some ((a1A p 0 el).map d3F,[k,j],d1K es))
   |none=>none
  |none=>none)
 |_,_=>none
noncomputable def d0v (s:S) (k:Nat):Option (List (List AV)×List Nat×List Nat):=match s.get k with
 |some (.cells [.int .u64 (.ofNat p)] T)=>gd (Nat.beq T 34&&Nat.blt p M64) (some ((c0S p).map (fun x=>[.int .u64 (.ofNat x)]),[k],[]))
 |_=>none
noncomputable def itb (f:FuncId) (cs:List AV) (s:S):Option (List (List AV)×List Nat×List Nat):=match cs with
 |[.ptr k 0]=>bif Nat.beq f 220 then d0t s k else bif Nat.beq f 233 then d0v s k else none
 |[.ptr k 0,.ptr j 0]=>bif Nat.beq f 168 then d0u s k j else none
 |_=>none
def orc (f:FuncId) (vs:List AV) (s:S) (_:Nat):Option (List (AV×S)):=match orv f vs with|some v=>some [(v,s)]|none=>none
def kty (t:TypeId):Bool:=Nat.beq t 142||Nat.beq t 100||Nat.beq t 81||Nat.beq t 53
def pur (f:FuncId):Bool:=not (Nat.beq f 54||Nat.beq f 69||Nat.beq f 81||Nat.beq f 82||Nat.beq f 113||Nat.beq f 127||Nat.beq f 131||Nat.beq f 150||Nat.beq f 153||Nat.beq f 162||Nat.beq f 164||Nat.beq f 168||Nat.beq f 180||Nat.beq f 185||Nat.beq f 200||Nat.beq f 220||Nat.beq f 225||Nat.beq f 228||Nat.beq f 229||Nat.beq f 233||Nat.beq f 250||Nat.beq f 251||Nat.beq f 264)
end Go.Proofs.YtkcjbfoejpfbbaaGreatDoor
/- MADE BY mkRz.py: the table of trees holds. -/
namespace Go.RZ
open Go.RowKit Go.RX
def c1J (P:Program) (T:FuncId->Option (Nat×Tree)):Prop:=∀g np t,T g=some (np,t)->a7q P g=true/\(P.funcs[g]?).map (fun fn=>fn.params.size+fn.nfree)=some np/\∃E A J C,tree P E A J C g=some t
theorem a0b {P:Program} {c np:Nat} {t:Tree} (h:a7q P c=true/\(P.funcs[c]?).map (fun fn=>fn.params.size+fn.nfree)=some np/\∃E A J C,tree P E A J C c=some t):c1J P (fun f=>bif Nat.beq f c then some (np,t)else none):=fun g np' t' hg=>by
 cases hb:Nat.beq g c with
 |false=>simp only[hb,cond_false]at hg;cases hg
 |true=>
  simp only[hb,cond_true,Option.some.injEq,Prod.mk.injEq]at hg
  obtain⟨rfl,rfl⟩:=hg
  rw[a1E hb];exact h
theorem a0c {P:Program} {c:Nat} {A B:FuncId->Option (Nat×Tree)} (ha:c1J P A) (hb:c1J P B):c1J P (fun f=>bif Nat.blt f c then A f else B f):=fun g np t hg=>by
 cases h:Nat.blt g c with
 |true=>simp only[h,cond_true]at hg;exact ha g np t hg
 |false=>simp only[h,cond_false]at hg;exact hb g np t hg
end Go.RZ
namespace Go.Proofs.YtkcjbfoejpfbbaaGreatDoor
open Go.Proofs.Tryz
open Go.RowKit Go.RX Go.RZ
set_option maxRecDepth 100000 in
theorem d3G:c1J prog tab:=
 a0c (a0c (a0c (a0c (a0c (a0c (a0c (a0b ⟨by kernel_rfl,(by kernel_rfl),_,_,_,_,c9R⟩)
    (a0b ⟨by kernel_rfl,(by kernel_rfl),_,_,_,_,b9w⟩))
   (a0c (a0b ⟨by kernel_rfl,(by kernel_rfl),_,_,_,_,c9E⟩)
    (a0b ⟨by kernel_rfl,(by kernel_rfl),_,_,_,_,b9G⟩)))
   (a0c (a0c (a0b ⟨by kernel_rfl,(by kernel_rfl),_,_,_,_,c9m⟩)
    (a0b ⟨by kernel_rfl,(by kernel_rfl),_,_,_,_,c4Q⟩))
   (a0c (a0b ⟨by kernel_rfl,(by kernel_rfl),_,_,_,_,c9n⟩)
    (a0b ⟨by kernel_rfl,(by kernel_rfl),_,_,_,_,c4P⟩))))
 (a0c (a0c (a0c (a0b ⟨by kernel_rfl,(by kernel_rfl),_,_,_,_,c0l⟩)
    (a0b ⟨by kernel_rfl,(by kernel_rfl),_,_,_,_,c9U⟩))
   (a0c (a0b ⟨by kernel_rfl,(by kernel_rfl),_,_,_,_,d3q⟩)
    (a0b ⟨by kernel_rfl,(by kernel_rfl),_,_,_,_,c0Q⟩)))
  (a0c (a0c (a0b ⟨by kernel_rfl,(by kernel_rfl),_,_,_,_,d2k⟩)
    (a0b ⟨by kernel_rfl,(by kernel_rfl),_,_,_,_,c0I⟩))
   (a0c (a0b ⟨by kernel_rfl,(by kernel_rfl),_,_,_,_,b9j⟩)
    (a0c (a0b ⟨by kernel_rfl,(by kernel_rfl),_,_,_,_,c6O⟩)
     (a0b ⟨by kernel_rfl,(by kernel_rfl),_,_,_,_,c9P⟩))))))
  (a0c (a0c (a0c (a0c (a0b ⟨by kernel_rfl,(by kernel_rfl),_,_,_,_,c9Q⟩)
    (a0b ⟨by kernel_rfl,(by kernel_rfl),_,_,_,_,d6a⟩))
   (a0c (a0b ⟨by kernel_rfl,(by kernel_rfl),_,_,_,_,c9s⟩)
    (a0b ⟨by kernel_rfl,(by kernel_rfl),_,_,_,_,c9t⟩)))
   (a0c (a0c (a0b ⟨by kernel_rfl,(by kernel_rfl),_,_,_,_,b9h⟩)
    (a0b ⟨by kernel_rfl,(by kernel_rfl),_,_,_,_,b8V⟩))
   (a0c (a0b ⟨by kernel_rfl,(by kernel_rfl),_,_,_,_,b4i⟩)
    (a0b ⟨by kernel_rfl,(by kernel_rfl),_,_,_,_,c9D⟩))))
 (a0c (a0c (a0c (a0b ⟨by kernel_rfl,(by kernel_rfl),_,_,_,_,c0E⟩)
    (a0b ⟨by kernel_rfl,(by kernel_rfl),_,_,_,_,b9D⟩))
   (a0c (a0b ⟨by kernel_rfl,(by kernel_rfl),_,_,_,_,c9y⟩)
    (a0b ⟨by kernel_rfl,(by kernel_rfl),_,_,_,_,d0e⟩)))
  (a0c (a0c (a0b ⟨by kernel_rfl,(by kernel_rfl),_,_,_,_,c0g⟩)
    (a0b ⟨by kernel_rfl,(by kernel_rfl),_,_,_,_,c9M⟩))
   (a0c (a0b ⟨by kernel_rfl,(by kernel_rfl),_,_,_,_,c4N⟩)
    (a0c (a0b ⟨by kernel_rfl,(by kernel_rfl),_,_,_,_,c9V⟩)
     (a0b ⟨by kernel_rfl,(by kernel_rfl),_,_,_,_,b9P⟩)))))))
(a0c (a0c (a0c (a0c (a0c (a0b ⟨by kernel_rfl,(by kernel_rfl),_,_,_,_,c4X⟩)
    (a0b ⟨by kernel_rfl,(by kernel_rfl),_,_,_,_,c9I⟩))
   (a0c (a0b ⟨by kernel_rfl,(by kernel_rfl),_,_,_,_,c1G⟩)
    (a0b ⟨by kernel_rfl,(by kernel_rfl),_,_,_,_,c5c⟩)))
  (a0c (a0c (a0b ⟨by kernel_rfl,(by kernel_rfl),_,_,_,_,c6X⟩)
    (a0b ⟨by kernel_rfl,(by kernel_rfl),_,_,_,_,c0O⟩))
   (a0c (a0b ⟨by kernel_rfl,(by kernel_rfl),_,_,_,_,b4K⟩)
    (a0b ⟨by kernel_rfl,(by kernel_rfl),_,_,_,_,a8a⟩))))
 (a0c (a0c (a0c (a0b ⟨by kernel_rfl,(by kernel_rfl),_,_,_,_,b4S⟩)
    (a0b ⟨by kernel_rfl,(by kernel_rfl),_,_,_,_,c0K⟩))
   (a0c (a0b ⟨by kernel_rfl,(by kernel_rfl),_,_,_,_,b1c⟩)
    (a0b ⟨by kernel_rfl,(by kernel_rfl),_,_,_,_,c1u⟩)))
  (a0c (a0c (a0b ⟨by kernel_rfl,(by kernel_rfl),_,_,_,_,c0G⟩)
    (a0b ⟨by kernel_rfl,(by kernel_rfl),_,_,_,_,c6Q⟩))
   (a0c (a0b ⟨by kernel_rfl,(by kernel_rfl),_,_,_,_,b4d⟩)
    (a0c (a0b ⟨by kernel_rfl,(by kernel_rfl),_,_,_,_,b9d⟩)
     (a0b ⟨by kernel_rfl,(by kernel_rfl),_,_,_,_,d3D⟩))))))
(a0c (a0c (a0c (a0c (a0b ⟨by kernel_rfl,(by kernel_rfl),_,_,_,_,b8N⟩)
    (a0b ⟨by kernel_rfl,(by kernel_rfl),_,_,_,_,b8Z⟩))
   (a0c (a0b ⟨by kernel_rfl,(by kernel_rfl),_,_,_,_,c9x⟩)
    (a0b ⟨by kernel_rfl,(by kernel_rfl),_,_,_,_,c9z⟩)))
  (a0c (a0c (a0b ⟨by kernel_rfl,(by kernel_rfl),_,_,_,_,c9o⟩)
    (a0b ⟨by kernel_rfl,(by kernel_rfl),_,_,_,_,c4M⟩))
   (a0c (a0b ⟨by kernel_rfl,(by kernel_rfl),_,_,_,_,b9z⟩)
    (a0b ⟨by kernel_rfl,(by kernel_rfl),_,_,_,_,c0w⟩))))
 (a0c (a0c (a0c (a0b ⟨by kernel_rfl,(by kernel_rfl),_,_,_,_,c0C⟩)
    (a0b ⟨by kernel_rfl,(by kernel_rfl),_,_,_,_,c0A⟩))
   (a0c (a0b ⟨by kernel_rfl,(by kernel_rfl),_,_,_,_,c9u⟩)
    (a0b ⟨by kernel_rfl,(by kernel_rfl),_,_,_,_,c9Y⟩)))
  (a0c (a0c (a0b ⟨by kernel_rfl,(by kernel_rfl),_,_,_,_,c9H⟩)
    (a0b ⟨by kernel_rfl,(by kernel_rfl),_,_,_,_,d0f⟩))
   (a0c (a0b ⟨by kernel_rfl,(by kernel_rfl),_,_,_,_,c9G⟩)
    (a0c (a0b ⟨by kernel_rfl,(by kernel_rfl),_,_,_,_,c9F⟩)
     (a0b ⟨by kernel_rfl,(by kernel_rfl),_,_,_,_,c9p⟩))))))))
 (a0c (a0c (a0c (a0c (a0c (a0c (a0b ⟨by kernel_rfl,(by kernel_rfl),_,_,_,_,c4O⟩)
    (a0b ⟨by kernel_rfl,(by kernel_rfl),_,_,_,_,c9L⟩))
   (a0c (a0b ⟨by kernel_rfl,(by kernel_rfl),_,_,_,_,b6m⟩)
    (a0b ⟨by kernel_rfl,(by kernel_rfl),_,_,_,_,c9W⟩)))
   (a0c (a0c (a0b ⟨by kernel_rfl,(by kernel_rfl),_,_,_,_,c4Y⟩)
    (a0b ⟨by kernel_rfl,(by kernel_rfl),_,_,_,_,b8P⟩))
   (a0c (a0b ⟨by kernel_rfl,(by kernel_rfl),_,_,_,_,c1F⟩)
    (a0b ⟨by kernel_rfl,(by kernel_rfl),_,_,_,_,b4I⟩))))
 (a0c (a0c (a0c (a0b ⟨by kernel_rfl,(by kernel_rfl),_,_,_,_,c0y⟩)
    (a0b ⟨by kernel_rfl,(by kernel_rfl),_,_,_,_,b4w⟩))
   (a0c (a0b ⟨by kernel_rfl,(by kernel_rfl),_,_,_,_,b4Q⟩)
    (a0b ⟨by kernel_rfl,(by kernel_rfl),_,_,_,_,c0M⟩)))
  (a0c (a0c (a0b ⟨by kernel_rfl,(by kernel_rfl),_,_,_,_,b7S⟩)
    (a0b ⟨by kernel_rfl,(by kernel_rfl),_,_,_,_,b7Q⟩))
   (a0c (a0b ⟨by kernel_rfl,(by kernel_rfl),_,_,_,_,b4G⟩)
    (a0c (a0b ⟨by kernel_rfl,(by kernel_rfl),_,_,_,_,b4u⟩)
     (a0b ⟨by kernel_rfl,(by kernel_rfl),_,_,_,_,a8c⟩))))))
  (a0c (a0c (a0c (a0c (a0b ⟨by kernel_rfl,(by kernel_rfl),_,_,_,_,b8R⟩)
    (a0b ⟨by kernel_rfl,(by kernel_rfl),_,_,_,_,c6S⟩))
   (a0c (a0b ⟨by kernel_rfl,(by kernel_rfl),_,_,_,_,b9l⟩)
    (a0b ⟨by kernel_rfl,(by kernel_rfl),_,_,_,_,c5b⟩)))
   (a0c (a0c (a0b ⟨by kernel_rfl,(by kernel_rfl),_,_,_,_,c9w⟩)
    (a0b ⟨by kernel_rfl,(by kernel_rfl),_,_,_,_,c9v⟩))
   (a0c (a0b ⟨by kernel_rfl,(by kernel_rfl),_,_,_,_,c9q⟩)
    (a0b ⟨by kernel_rfl,(by kernel_rfl),_,_,_,_,b9B⟩))))
 (a0c (a0c (a0c (a0b ⟨by kernel_rfl,(by kernel_rfl),_,_,_,_,b4l⟩)
    (a0b ⟨by kernel_rfl,(by kernel_rfl),_,_,_,_,c9Z⟩))
   (a0c (a0b ⟨by kernel_rfl,(by kernel_rfl),_,_,_,_,d0l⟩)
    (a0b ⟨by kernel_rfl,(by kernel_rfl),_,_,_,_,d0g⟩)))
  (a0c (a0c (a0b ⟨by kernel_rfl,(by kernel_rfl),_,_,_,_,d0h⟩)
    (a0b ⟨by kernel_rfl,(by kernel_rfl),_,_,_,_,d0o⟩))
   (a0c (a0b ⟨by kernel_rfl,(by kernel_rfl),_,_,_,_,d0p⟩)
    (a0c (a0b ⟨by kernel_rfl,(by kernel_rfl),_,_,_,_,c9r⟩)
     (a0b ⟨by kernel_rfl,(by kernel_rfl),_,_,_,_,c9K⟩)))))))
(a0c (a0c (a0c (a0c (a0c (a0b ⟨by kernel_rfl,(by kernel_rfl),_,_,_,_,b6n⟩)
    (a0b ⟨by kernel_rfl,(by kernel_rfl),_,_,_,_,c9J⟩))
   (a0c (a0b ⟨by kernel_rfl,(by kernel_rfl),_,_,_,_,c1I⟩)
    (a0b ⟨by kernel_rfl,(by kernel_rfl),_,_,_,_,c1H⟩)))
  (a0c (a0c (a0b ⟨by kernel_rfl,(by kernel_rfl),_,_,_,_,b2z⟩)
    (a0b ⟨by kernel_rfl,(by kernel_rfl),_,_,_,_,c9X⟩))
   (a0c (a0b ⟨by kernel_rfl,(by kernel_rfl),_,_,_,_,c1y⟩)
    (a0b ⟨by kernel_rfl,(by kernel_rfl),_,_,_,_,c1w⟩))))
 (a0c (a0c (a0c (a0b ⟨by kernel_rfl,(by kernel_rfl),_,_,_,_,b4M⟩)
    (a0b ⟨by kernel_rfl,(by kernel_rfl),_,_,_,_,b1e⟩))
   (a0c (a0b ⟨by kernel_rfl,(by kernel_rfl),_,_,_,_,b1g⟩)
    (a0b ⟨by kernel_rfl,(by kernel_rfl),_,_,_,_,b3v⟩)))
  (a0c (a0c (a0b ⟨by kernel_rfl,(by kernel_rfl),_,_,_,_,b3t⟩)
    (a0b ⟨by kernel_rfl,(by kernel_rfl),_,_,_,_,b4f⟩))
   (a0c (a0b ⟨by kernel_rfl,(by kernel_rfl),_,_,_,_,b6l⟩)
    (a0c (a0b ⟨by kernel_rfl,(by kernel_rfl),_,_,_,_,d0a⟩)
     (a0b ⟨by kernel_rfl,(by kernel_rfl),_,_,_,_,d0b⟩))))))
(a0c (a0c (a0c (a0c (a0b ⟨by kernel_rfl,(by kernel_rfl),_,_,_,_,d0j⟩)
    (a0b ⟨by kernel_rfl,(by kernel_rfl),_,_,_,_,d0i⟩))
   (a0c (a0b ⟨by kernel_rfl,(by kernel_rfl),_,_,_,_,d0m⟩)
    (a0b ⟨by kernel_rfl,(by kernel_rfl),_,_,_,_,d0k⟩)))
  (a0c (a0c (a0b ⟨by kernel_rfl,(by kernel_rfl),_,_,_,_,d0q⟩)
    (a0b ⟨by kernel_rfl,(by kernel_rfl),_,_,_,_,b4n⟩))
   (a0c (a0b ⟨by kernel_rfl,(by kernel_rfl),_,_,_,_,c1A⟩)
    (a0c (a0b ⟨by kernel_rfl,(by kernel_rfl),_,_,_,_,c1E⟩)
     (a0b ⟨by kernel_rfl,(by kernel_rfl),_,_,_,_,b6k⟩)))))
 (a0c (a0c (a0c (a0b ⟨by kernel_rfl,(by kernel_rfl),_,_,_,_,d0c⟩)
    (a0b ⟨by kernel_rfl,(by kernel_rfl),_,_,_,_,d0d⟩))
   (a0c (a0b ⟨by kernel_rfl,(by kernel_rfl),_,_,_,_,d0n⟩)
    (a0b ⟨by kernel_rfl,(by kernel_rfl),_,_,_,_,c5a⟩)))
  (a0c (a0c (a0b ⟨by kernel_rfl,(by kernel_rfl),_,_,_,_,d0r⟩)
    (a0b ⟨by kernel_rfl,(by kernel_rfl),_,_,_,_,c1C⟩))
   (a0c (a0b ⟨by kernel_rfl,(by kernel_rfl),_,_,_,_,b4O⟩)
    (a0c (a0b ⟨by kernel_rfl,(by kernel_rfl),_,_,_,_,c4Z⟩)
     (a0b ⟨by kernel_rfl,(by kernel_rfl),_,_,_,_,b7U⟩))))))))
end Go.Proofs.YtkcjbfoejpfbbaaGreatDoor
