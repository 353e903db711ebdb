/- Contracts of the shelf at this program: laid by the kit. -/
import Derived.Shelf.Strings.Trim
import Derived.Shelf.LaysM
import Derived.Shelf.Strings.Shaped
import Derived.Shelf.Strings.Prefix
import Derived.Shelf.Strings.Replace
import Derived.Shelf.Strings.SplitShaped
import Derived.Test.YtcleogdmobdnpacGreatRDoorProg
import Derived.Test.YtcleogdmobdnpacGreatRDoorSrC
import Derived.Test.YtcleogdmobdnpacGreatRDoorSoA
import Derived.Lib.IndexLaws
import Derived.Lib.Replace
import Derived.Lib.TrimByte
import Derived.Test.YtcleogdmobdnpacGreatRDoorWdT
namespace Go.Proofs
open Go.Shelf
def Tryz.lays161_ren : Go.Shelf.Ren := ⟨fun | 161 => 56 | 231 => 107 | 227 => 108 | 233 => 109 | 235 => 110 | 228 => 133 | 197 => 134 | 151 => 135 | 260 => 154 | 152 => 155 | 137 => 164 | 119 => 165 | 224 => 152 | 225 => 151 | 217 => 150 | 266 => 162 | n => n, fun | 9 => 9 | 4 => 4 | 3 => 3 | 5 => 5 | 117 => 145 | 116 => 144 | 0 => 0 | 124 => 148 | 105 => 170 | 21 => 21 | 119 => 193 | 46 => 162 | 139 => 196 | 138 => 195 | n => n, fun | 3 => 3 | 4 => 4 | n => n⟩
theorem Tryz.lays161 : Go.Proofs.Lays.n161 Tryz.prog Tryz.lays161_ren := {
  mixed := by kernel_rfl
  f119 := Tryz.func165.trans (congrArg some (by kernel_rfl))
  f137 := Tryz.func164.trans (congrArg some (by kernel_rfl))
  f151 := Tryz.func135.trans (congrArg some (by kernel_rfl))
  f152 := Tryz.func155.trans (congrArg some (by kernel_rfl))
  f161 := Tryz.func56.trans (congrArg some (by kernel_rfl))
  f197 := Tryz.func134.trans (congrArg some (by kernel_rfl))
  f217 := Tryz.func150.trans (congrArg some (by kernel_rfl))
  f224 := Tryz.func152.trans (congrArg some (by kernel_rfl))
  f225 := Tryz.func151.trans (congrArg some (by kernel_rfl))
  f227 := Tryz.func108.trans (congrArg some (by kernel_rfl))
  f228 := Tryz.func133.trans (congrArg some (by kernel_rfl))
  f231 := Tryz.func107.trans (congrArg some (by kernel_rfl))
  f233 := Tryz.func109.trans (congrArg some (by kernel_rfl))
  f235 := Tryz.func110.trans (congrArg some (by kernel_rfl))
  f260 := Tryz.func154.trans (congrArg some (by kernel_rfl))
  f266 := Tryz.func162.trans (congrArg some (by kernel_rfl))
  t0 := Tryz.underlying0
  a0 := Tryz.isAgg0
  z0 := Tryz.sizeOf0
  v0 := Tryz.zeroValue0
  t3 := Tryz.underlying3
  a3 := Tryz.isAgg3
  z3 := Tryz.sizeOf3
  v3 := Tryz.zeroValue3
  t4 := Tryz.underlying4
  a4 := Tryz.isAgg4
  z4 := Tryz.sizeOf4
  v4 := Tryz.zeroValue4
  t5 := Tryz.underlying5
  a5 := Tryz.isAgg5
  z5 := Tryz.sizeOf5
  v5 := Tryz.zeroValue5
  t9 := Tryz.underlying9
  a9 := Tryz.isAgg9
  z9 := Tryz.sizeOf9
  v9 := Tryz.zeroValue9
  t21 := Tryz.underlying21
  a21 := Tryz.isAgg21
  z21 := Tryz.sizeOf21
  v21 := Tryz.zeroValue21
  t46 := Tryz.underlying162
  a46 := Tryz.isAgg162
  z46 := Tryz.sizeOf162
  v46 := Tryz.zeroValue162
  t105 := Tryz.underlying170
  a105 := Tryz.isAgg170
  z105 := Tryz.sizeOf170
  v105 := Tryz.zeroValue170
  t116 := Tryz.underlying144
  a116 := Tryz.isAgg144
  z116 := Tryz.sizeOf144
  t117 := Tryz.underlying145
  a117 := Tryz.isAgg145
  z117 := Tryz.sizeOf145
  v117 := Tryz.zeroValue145
  t119 := Tryz.underlying193
  a119 := Tryz.isAgg193
  z119 := Tryz.sizeOf193
  t124 := Tryz.underlying148
  a124 := Tryz.isAgg148
  z124 := Tryz.sizeOf148
  v124 := Tryz.zeroValue148
  t138 := Tryz.underlying195
  a138 := Tryz.isAgg195
  z138 := Tryz.sizeOf195
  v138 := Tryz.zeroValue195
  t139 := Tryz.underlying196
  a139 := Tryz.isAgg196
  z139 := Tryz.sizeOf196
  v139 := Tryz.zeroValue196
  g3 := by kernel_rfl
  g4 := by kernel_rfl }
open Go.RowKit in
theorem Tryz.strings_TrimLeft_one (s : ByteArray) (c : UInt8) (hc : c.toNat < 128) (w : World) :
    Calls Tryz.prog 56 #[.string s, .string ⟨#[c]⟩] w fun e w' => e = .returned (.string ⟨(Lib.trimLeftB s.data.toList c).toArray⟩) ∧ w' = w := Any.strings_TrimLeft_one Tryz.lays161 s c hc w
def Tryz.lays99_ren : Go.Shelf.Ren := ⟨fun | 99 => 55 | 206 => 106 | n => n, fun | 9 => 9 | 4 => 4 | 3 => 3 | n => n, fun | n => n⟩
theorem Tryz.lays99 : Go.Proofs.Lays.n99 Tryz.prog Tryz.lays99_ren := {
  mixed := by kernel_rfl
  f99 := Tryz.func55.trans (congrArg some (by kernel_rfl))
  f206 := Tryz.func106.trans (congrArg some (by kernel_rfl))
  t3 := Tryz.underlying3
  a3 := Tryz.isAgg3
  z3 := Tryz.sizeOf3
  v3 := Tryz.zeroValue3
  t4 := Tryz.underlying4
  a4 := Tryz.isAgg4
  z4 := Tryz.sizeOf4
  v4 := Tryz.zeroValue4
  t9 := Tryz.underlying9
  a9 := Tryz.isAgg9
  z9 := Tryz.sizeOf9
  v9 := Tryz.zeroValue9 }
open Go.RowKit Go.Lib in
theorem Tryz.strings_HasPrefix (s p : ByteArray) (w : World) :
    Calls Tryz.prog 55 #[.string s, .string p] w fun e w' => e = .returned (.bool (Lib.hasPrefix s.data.toList p.data.toList)) ∧ w' = w := Any.strings_HasPrefix Tryz.lays99 s p w
def Tryz.lays101_ren : Go.Shelf.Ren := ⟨fun | 101 => 50 | 208 => 100 | 206 => 106 | n => n, fun | 9 => 9 | 4 => 4 | 3 => 3 | n => n, fun | n => n⟩
theorem Tryz.lays101 : Go.Proofs.Lays.n101 Tryz.prog Tryz.lays101_ren := {
  mixed := by kernel_rfl
  f101 := Tryz.func50.trans (congrArg some (by kernel_rfl))
  f206 := Tryz.func106.trans (congrArg some (by kernel_rfl))
  f208 := Tryz.func100.trans (congrArg some (by kernel_rfl))
  t3 := Tryz.underlying3
  a3 := Tryz.isAgg3
  z3 := Tryz.sizeOf3
  v3 := Tryz.zeroValue3
  t4 := Tryz.underlying4
  a4 := Tryz.isAgg4
  z4 := Tryz.sizeOf4
  v4 := Tryz.zeroValue4
  t9 := Tryz.underlying9
  a9 := Tryz.isAgg9
  z9 := Tryz.sizeOf9
  v9 := Tryz.zeroValue9 }
open Go.RowKit Go.Lib in
theorem Tryz.strings_TrimPrefix (s p : ByteArray) (w : World) :
    Calls Tryz.prog 50 #[.string s, .string p] w fun e w' => e = .returned (.string ⟨(Lib.trimPrefix s.data.toList p.data.toList).toArray⟩) ∧ w' = w := Any.strings_TrimPrefix Tryz.lays101 s p w
def Tryz.lays155_ren : Go.Shelf.Ren := ⟨fun | 155 => 57 | 154 => 111 | 138 => 136 | 165 => 137 | 143 => 138 | 166 => 139 | 197 => 134 | 169 => 94 | 195 => 156 | 218 => 157 | 240 => 124 | 241 => 158 | 219 => 125 | 260 => 154 | 276 => 149 | 277 => 166 | 217 => 150 | 225 => 151 | 224 => 152 | 267 => 153 | 266 => 162 | 314 => 163 | n => n, fun | 9 => 9 | 3 => 3 | 4 => 4 | 72 => 128 | 0 => 0 | 76 => 174 | 105 => 170 | 21 => 21 | 5 => 5 | 70 => 126 | 20 => 20 | 37 => 124 | 75 => 130 | 127 => 163 | 164 => 182 | 46 => 162 | 119 => 193 | 139 => 196 | 138 => 195 | 146 => 191 | 51 => 23 | 80 => 132 | n => n, fun | 1 => 2 | 3 => 3 | 4 => 4 | n => n⟩
theorem Tryz.lays155 : Go.Proofs.Lays.n155 Tryz.prog Tryz.lays155_ren := {
  mixed := by kernel_rfl
  f138 := Tryz.func136.trans (congrArg some (by kernel_rfl))
  f143 := Tryz.func138.trans (congrArg some (by kernel_rfl))
  f154 := Tryz.func111.trans (congrArg some (by kernel_rfl))
  f155 := Tryz.func57.trans (congrArg some (by kernel_rfl))
  f165 := Tryz.func137.trans (congrArg some (by kernel_rfl))
  f166 := Tryz.func139.trans (congrArg some (by kernel_rfl))
  f169 := Tryz.func94.trans (congrArg some (by kernel_rfl))
  f195 := Tryz.func156.trans (congrArg some (by kernel_rfl))
  f197 := Tryz.func134.trans (congrArg some (by kernel_rfl))
  f217 := Tryz.func150.trans (congrArg some (by kernel_rfl))
  f218 := Tryz.func157.trans (congrArg some (by kernel_rfl))
  f219 := Tryz.func125.trans (congrArg some (by kernel_rfl))
  f224 := Tryz.func152.trans (congrArg some (by kernel_rfl))
  f225 := Tryz.func151.trans (congrArg some (by kernel_rfl))
  f240 := Tryz.func124.trans (congrArg some (by kernel_rfl))
  f241 := Tryz.func158.trans (congrArg some (by kernel_rfl))
  f260 := Tryz.func154.trans (congrArg some (by kernel_rfl))
  f266 := Tryz.func162.trans (congrArg some (by kernel_rfl))
  f267 := Tryz.func153.trans (congrArg some (by kernel_rfl))
  f276 := Tryz.func149.trans (congrArg some (by kernel_rfl))
  f277 := Tryz.func166.trans (congrArg some (by kernel_rfl))
  f314 := Tryz.func163.trans (congrArg some (by kernel_rfl))
  t0 := Tryz.underlying0
  a0 := Tryz.isAgg0
  z0 := Tryz.sizeOf0
  v0 := Tryz.zeroValue0
  t3 := Tryz.underlying3
  a3 := Tryz.isAgg3
  z3 := Tryz.sizeOf3
  v3 := Tryz.zeroValue3
  t4 := Tryz.underlying4
  a4 := Tryz.isAgg4
  z4 := Tryz.sizeOf4
  v4 := Tryz.zeroValue4
  t5 := Tryz.underlying5
  a5 := Tryz.isAgg5
  z5 := Tryz.sizeOf5
  v5 := Tryz.zeroValue5
  t9 := Tryz.underlying9
  a9 := Tryz.isAgg9
  z9 := Tryz.sizeOf9
  v9 := Tryz.zeroValue9
  t20 := Tryz.underlying20
  a20 := Tryz.isAgg20
  z20 := Tryz.sizeOf20
  v20 := Tryz.zeroValue20
  t21 := Tryz.underlying21
  a21 := Tryz.isAgg21
  z21 := Tryz.sizeOf21
  v21 := Tryz.zeroValue21
  t37 := Tryz.underlying124
  a37 := Tryz.isAgg124
  z37 := Tryz.sizeOf124
  v37 := Tryz.zeroValue124
  t46 := Tryz.underlying162
  a46 := Tryz.isAgg162
  z46 := Tryz.sizeOf162
  v46 := Tryz.zeroValue162
  t51 := Tryz.underlying23
  a51 := Tryz.isAgg23
  z51 := Tryz.sizeOf23
  v51 := Tryz.zeroValue23
  t70 := Tryz.underlying126
  a70 := Tryz.isAgg126
  z70 := Tryz.sizeOf126
  v70 := Tryz.zeroValue126
  t72 := Tryz.underlying128
  a72 := Tryz.isAgg128
  z72 := Tryz.sizeOf128
  v72 := Tryz.zeroValue128
  t75 := Tryz.underlying130
  a75 := Tryz.isAgg130
  z75 := Tryz.sizeOf130
  v75 := Tryz.zeroValue130
  t76 := Tryz.underlying174
  a76 := Tryz.isAgg174
  z76 := Tryz.sizeOf174
  v76 := Tryz.zeroValue174
  t105 := Tryz.underlying170
  a105 := Tryz.isAgg170
  z105 := Tryz.sizeOf170
  v105 := Tryz.zeroValue170
  t119 := Tryz.underlying193
  a119 := Tryz.isAgg193
  z119 := Tryz.sizeOf193
  t127 := Tryz.underlying163
  a127 := Tryz.isAgg163
  z127 := Tryz.sizeOf163
  v127 := Tryz.zeroValue163
  t138 := Tryz.underlying195
  a138 := Tryz.isAgg195
  z138 := Tryz.sizeOf195
  v138 := Tryz.zeroValue195
  t139 := Tryz.underlying196
  a139 := Tryz.isAgg196
  z139 := Tryz.sizeOf196
  v139 := Tryz.zeroValue196
  t146 := Tryz.underlying191
  a146 := Tryz.isAgg191
  z146 := Tryz.sizeOf191
  v146 := Tryz.zeroValue191
  t164 := Tryz.underlying182
  a164 := Tryz.isAgg182
  z164 := Tryz.sizeOf182
  v164 := Tryz.zeroValue182
  g1 := by kernel_rfl
  g3 := by kernel_rfl
  g4 := by kernel_rfl }
theorem Tryz.Builder_Extra_155 : Builder.Extra Tryz.prog Tryz.lays155_ren := {
  sizeBuilder := by kernel_rfl
  liesBuilder := by kernel_rfl
  t5 := Tryz.underlying5
  a5 := Tryz.isAgg5
  z5 := Tryz.sizeOf5
  v5 := Tryz.zeroValue5
  infoByte := by kernel_rfl
  cellsByte := by kernel_rfl
  sizeByte := by kernel_rfl
  neB5 := by decide }
open Go.RowKit Go.Lib in
theorem Tryz.strings_ReplaceAll (s old new : ByteArray) (m : Int) (w : World) (hs : s.size < 4294967281) (hm : w.cell? ⟨2, 0, none⟩ = some (.int .i64 m)) (h1 : 1 ≤ old.size) (hlen : s.size + Lib.countB s old * new.size ≤ 140737488355328) :
    Calls Tryz.prog 57 #[.string s, .string old, .string new] w fun e w' =>
      e = .returned (.string ⟨(Lib.replaceAll s.data.toList old.data.toList new.data.toList).toArray⟩) ∧ Below w.heap.size w w' := Any.strings_ReplaceAll Tryz.lays155 Tryz.Builder_Extra_155 s old new m w hs hm h1 hlen
def Tryz.laysM155_ren : Go.Shelf.Ren := ⟨fun | 155 => 57 | 154 => 111 | 138 => 136 | 165 => 137 | 143 => 138 | 166 => 139 | 197 => 134 | 169 => 94 | 195 => 156 | 218 => 157 | 240 => 124 | 241 => 158 | 219 => 125 | 260 => 154 | 276 => 149 | 277 => 166 | 217 => 150 | 225 => 151 | 224 => 152 | 267 => 153 | 266 => 162 | 314 => 163 | n => n, fun | 9 => 9 | 3 => 3 | 4 => 4 | 72 => 128 | 0 => 0 | 76 => 174 | 105 => 170 | 21 => 21 | 5 => 5 | 70 => 126 | 20 => 20 | 37 => 124 | 75 => 130 | 127 => 163 | 164 => 182 | 46 => 162 | 119 => 193 | 139 => 196 | 138 => 195 | 146 => 191 | 51 => 23 | 80 => 132 | n => n, fun | 1 => 2 | 3 => 3 | 4 => 4 | n => n⟩
theorem Tryz.laysM155 : Go.Proofs.LaysM.n155 Tryz.prog Tryz.laysM155_ren := {
  mixed := by kernel_rfl
  f138 := Tryz.func136.trans (congrArg some (by kernel_rfl))
  f143 := Tryz.func138.trans (congrArg some (by kernel_rfl))
  f154 := Tryz.func111.trans (congrArg some (by kernel_rfl))
  f155 := Tryz.func57.trans (congrArg some (by kernel_rfl))
  f165 := Tryz.func137.trans (congrArg some (by kernel_rfl))
  f166 := Tryz.func139.trans (congrArg some (by kernel_rfl))
  f169 := Tryz.func94.trans (congrArg some (by kernel_rfl))
  f195 := Tryz.func156.trans (congrArg some (by kernel_rfl))
  f197 := Tryz.func134.trans (congrArg some (by kernel_rfl))
  f217 := Tryz.func150.trans (congrArg some (by kernel_rfl))
  f218 := Tryz.func157.trans (congrArg some (by kernel_rfl))
  f219 := Tryz.func125.trans (congrArg some (by kernel_rfl))
  f224 := Tryz.func152.trans (congrArg some (by kernel_rfl))
  f225 := Tryz.func151.trans (congrArg some (by kernel_rfl))
  f240 := Tryz.func124.trans (congrArg some (by kernel_rfl))
  f241 := Tryz.func158.trans (congrArg some (by kernel_rfl))
  f260 := Tryz.func154.trans (congrArg some (by kernel_rfl))
  f266 := Tryz.func162.trans (congrArg some (by kernel_rfl))
  f267 := Tryz.func153.trans (congrArg some (by kernel_rfl))
  f276 := Tryz.func149.trans (congrArg some (by kernel_rfl))
  f277 := Tryz.func166.trans (congrArg some (by kernel_rfl))
  f314 := Tryz.func163.trans (congrArg some (by kernel_rfl))
  t0 := Tryz.underlying0
  a0 := Tryz.isAgg0
  z0 := Tryz.sizeOf0
  v0 := Tryz.zeroValue0
  t3 := Tryz.underlying3
  a3 := Tryz.isAgg3
  z3 := Tryz.sizeOf3
  v3 := Tryz.zeroValue3
  t4 := Tryz.underlying4
  a4 := Tryz.isAgg4
  z4 := Tryz.sizeOf4
  v4 := Tryz.zeroValue4
  t5 := Tryz.underlying5
  a5 := Tryz.isAgg5
  z5 := Tryz.sizeOf5
  v5 := Tryz.zeroValue5
  t9 := Tryz.underlying9
  a9 := Tryz.isAgg9
  z9 := Tryz.sizeOf9
  v9 := Tryz.zeroValue9
  t20 := Tryz.underlying20
  a20 := Tryz.isAgg20
  z20 := Tryz.sizeOf20
  v20 := Tryz.zeroValue20
  t21 := Tryz.underlying21
  a21 := Tryz.isAgg21
  z21 := Tryz.sizeOf21
  v21 := Tryz.zeroValue21
  t37 := Tryz.underlying124
  a37 := Tryz.isAgg124
  z37 := Tryz.sizeOf124
  v37 := Tryz.zeroValue124
  t46 := Tryz.underlying162
  a46 := Tryz.isAgg162
  z46 := Tryz.sizeOf162
  v46 := Tryz.zeroValue162
  t51 := Tryz.underlying23
  a51 := Tryz.isAgg23
  z51 := Tryz.sizeOf23
  v51 := Tryz.zeroValue23
  t70 := Tryz.underlying126
  a70 := Tryz.isAgg126
  z70 := Tryz.sizeOf126
  v70 := Tryz.zeroValue126
  t72 := Tryz.underlying128
  a72 := Tryz.isAgg128
  z72 := Tryz.sizeOf128
  v72 := Tryz.zeroValue128
  t75 := Tryz.underlying130
  a75 := Tryz.isAgg130
  z75 := Tryz.sizeOf130
  v75 := Tryz.zeroValue130
  t76 := Tryz.underlying174
  a76 := Tryz.isAgg174
  z76 := Tryz.sizeOf174
  v76 := Tryz.zeroValue174
  t105 := Tryz.underlying170
  a105 := Tryz.isAgg170
  z105 := Tryz.sizeOf170
  v105 := Tryz.zeroValue170
  t119 := Tryz.underlying193
  a119 := Tryz.isAgg193
  z119 := Tryz.sizeOf193
  t127 := Tryz.underlying163
  a127 := Tryz.isAgg163
  z127 := Tryz.sizeOf163
  v127 := Tryz.zeroValue163
  t138 := Tryz.underlying195
  a138 := Tryz.isAgg195
  z138 := Tryz.sizeOf195
  v138 := Tryz.zeroValue195
  t139 := Tryz.underlying196
  a139 := Tryz.isAgg196
  z139 := Tryz.sizeOf196
  v139 := Tryz.zeroValue196
  t146 := Tryz.underlying191
  a146 := Tryz.isAgg191
  z146 := Tryz.sizeOf191
  v146 := Tryz.zeroValue191
  t164 := Tryz.underlying182
  a164 := Tryz.isAgg182
  z164 := Tryz.sizeOf182
  v164 := Tryz.zeroValue182
  g1 := by kernel_rfl
  g3 := by kernel_rfl
  g4 := by kernel_rfl
  t80 := Tryz.underlying132
  a80 := Tryz.isAgg132
  z80 := Tryz.sizeOf132
  v80 := Tryz.zeroValue132
  i0 := by kernel_rfl
  i3 := by kernel_rfl
  i4 := by kernel_rfl
  i5 := by kernel_rfl
  i9 := by kernel_rfl
  i20 := by kernel_rfl
  i21 := by kernel_rfl
  i37 := by kernel_rfl
  i46 := by kernel_rfl
  i51 := by kernel_rfl
  i70 := by kernel_rfl
  i72 := by kernel_rfl
  i75 := by kernel_rfl
  i76 := by kernel_rfl
  i80 := by kernel_rfl
  i105 := by kernel_rfl
  i127 := by kernel_rfl
  i138 := by kernel_rfl
  i139 := by kernel_rfl
  i146 := by kernel_rfl
  i164 := by kernel_rfl
  m1 := by kernel_rfl
  s1_3 := fun w h => Go.Proofs.cell_of_shapedOpen_int (zero := #[.int .i64 0]) (t := 3) h (of_decide_eq_true (by kernel_rfl)) (by kernel_rfl) rfl (by kernel_rfl) (by kernel_rfl) Tryz.underlying3
  m3 := by kernel_rfl
  m4 := by kernel_rfl }
end Go.Proofs
namespace Go.WD
open Go.RX
theorem dig_head {l : List UInt8} (h : l.all digB = true) {c : UInt8} (hc : digB c = false) : c ∉ l := fun hm => by
  have := List.all_eq_true.1 h c hm
  rw [hc] at this; cases this
theorem dr_dig (n : Nat) : (dr n).all digB = true := (dr_spec (n + 1) n (by omega)).1
theorem dzn_dig (n : Nat) : (dzn n).all digB = true := by
  unfold dzn; split
  · rfl
  · exact dr_dig n
theorem pad_dig (m n : Nat) : (pad m (dzn n)).all digB = true := by
  unfold pad
  rw [List.all_append, dzn_dig, Bool.and_true, List.all_replicate]
  simp [digB]
theorem txt_slash (z : Int) : (47 : UInt8) ∉ txt z := by
  have h := dig_head (dr_dig z.natAbs) (c := 47) (by decide)
  rw [txt_dr]; split
  · intro hm
    rcases List.mem_cons.1 hm with e | e
    · exact absurd e (by decide)
    · exact h e
  · exact h
theorem get_no {l : List UInt8} {c : UInt8} (h : c ∉ l) (j : Nat) : l[j]? ≠ some c := fun e => h (List.mem_of_getElem? e)
theorem cut_two {A B : List UInt8} (hA : (47 : UInt8) ∉ A) : cutB (A ++ 47 :: B) = true ∧ cutA (A ++ 47 :: B) = A ∧ cutU (A ++ 47 :: B) = B := by
  have e1 : (A ++ 47 :: B)[A.length]? = some 47 := by rw [List.getElem?_append_right (Nat.le_refl _), Nat.sub_self]; rfl
  obtain ⟨h1, h2, h3⟩ := cut_at (l := A ++ 47 :: B) (i := A.length) (by simp) (fun j hj => by
    rw [List.getElem?_append_left hj]; exact get_no hA j) (fun h => h.2 e1)
  have hl : A.length < (A ++ 47 :: B).length := by simp
  refine ⟨by rw [h1, decide_eq_true hl], by rw [h2, List.take_left], ?_⟩
  rw [h3 hl, List.drop_append, List.drop_of_length_le (by omega), Nat.add_sub_cancel_left]
  rfl
theorem cut_one {A : List UInt8} (hA : (47 : UInt8) ∉ A) : cutB A = false ∧ cutA A = A := by
  obtain ⟨h1, h2, _⟩ := cut_at (l := A) (i := A.length) (Nat.le_refl _) (fun j _ => get_no hA j) (fun h => Nat.lt_irrefl _ h.1)
  exact ⟨by rw [h1, decide_eq_false (Nat.lt_irrefl _)], by rw [h2, List.take_length]⟩
theorem ng_pos {z : Int} (h : 0 < z) : ng (txt z) = false := by
  have h1 := (dr_spec (z.natAbs + 1) z.natAbs (by omega)).2.2.2.1
  rw [txt_dr, if_neg (by omega)]
  unfold ng
  rw [beq_eq_false_iff_ne]
  intro e; rw [e] at h1; revert h1; decide
/-! ### plain -/
def plainL (l : List UInt8) : List UInt8 :=
  let c := Go.Lib.trimLeftB (Go.Lib.replaceAll (Go.Lib.trimPrefix l [45]) [46] []) 48
  if c = [] then [48] else if Go.Lib.hasPrefix l [45] then 45 :: c else c
theorem has_cons (c d : UInt8) (l : List UInt8) : Go.Lib.hasPrefix (c :: l) [d] = (d == c) := by
  unfold Go.Lib.hasPrefix; simp [List.isPrefixOf]
theorem replace_none {l : List UInt8} (h : (46 : UInt8) ∉ l) : Go.Lib.replaceAll l [46] [] = l := by
  unfold Go.Lib.replaceAll Go.Lib.replace Go.Lib.replaceNum
  rw [if_neg (by simp), if_pos (.inl (by omega)), Go.Lib.count_one, List.count_eq_zero.2 h]
  rfl
theorem replace_dot {A B : List UInt8} (hA : (46 : UInt8) ∉ A) (hB : (46 : UInt8) ∉ B) : Go.Lib.replaceAll (A ++ 46 :: B) [46] [] = A ++ B := by
  have e1 : (A ++ 46 :: B)[A.length]? = some 46 := by rw [List.getElem?_append_right (Nat.le_refl _), Nat.sub_self]; rfl
  have hi : Go.Lib.index (A ++ 46 :: B) [46] = (A.length : Int) := by
    rw [Go.Lib.index_one]
    obtain ⟨o, ho⟩ : ∃ o : Nat, Go.Lib.indexByte (A ++ 46 :: B) 46 = o := by
      have hg := Go.Lib.indexByte_ge (A ++ 46 :: B) 46
      rcases Int.lt_or_le (Go.Lib.indexByte (A ++ 46 :: B) 46) 0 with h3 | h3
      · exact absurd e1 (Go.Lib.indexByte_none (show Go.Lib.indexByte (A ++ 46 :: B) 46 = -1 by omega) _)
      · exact ⟨(Go.Lib.indexByte (A ++ 46 :: B) 46).toNat, by omega⟩
    obtain ⟨s1, s2⟩ := Go.Lib.indexByte_some ho
    rw [ho]
    rcases Nat.lt_trichotomy o A.length with h3 | h3 | h3
    · rw [List.getElem?_append_left h3] at s1
      exact absurd s1 (get_no hA o)
    · rw [h3]
    · exact absurd e1 (s2 _ h3)
  unfold Go.Lib.replaceAll Go.Lib.replace Go.Lib.replaceNum
  rw [if_neg (by simp), if_pos (.inl (by omega)), Go.Lib.count_one, List.count_append, List.count_eq_zero.2 hA, List.count_cons_self, List.count_eq_zero.2 hB, Go.Lib.replaceK_hit _ _ _ _ _ hi]
  rw [List.take_left, List.drop_append, List.drop_of_length_le (by simp)]
  simp [Go.Lib.replaceK]
theorem trim_pad (m n : Nat) : Go.Lib.trimLeftB (pad m (dzn n)) 48 = dzn n := by
  unfold Go.Lib.trimLeftB pad
  rw [List.dropWhile_append_of_pos (by intro a ha; rw [(List.mem_replicate.1 ha).2]; rfl)]
  unfold dzn
  split
  · rfl
  · rename_i h
    obtain ⟨_, _, h3, _, h5⟩ := dr_spec (n + 1) n (by omega)
    cases hd : dr n with
    | nil => exact absurd hd h3
    | cons c r =>
      rw [hd] at h5
      rw [List.dropWhile_cons_of_neg]
      intro e
      exact h (h5 (by simpa using e))
theorem plain_dec (z : Int) (p : Nat) : plainL (decL z p) = txt z := by
  obtain ⟨T, hT⟩ : ∃ T, T = pad (p + 1) (dzn z.natAbs) := ⟨_, rfl⟩
  obtain ⟨body, hb⟩ : ∃ body : List UInt8, body = if p = 0 then T else T.take (T.length - p) ++ 46 :: T.drop (T.length - p) := ⟨_, rfl⟩
  have hdig : T.all digB = true := by rw [hT]; exact pad_dig _ _
  have hTl : p < T.length := by rw [hT, pad_len]; omega
  have hno : (46 : UInt8) ∉ T := dig_head hdig (by decide)
  have hrep : Go.Lib.replaceAll body [46] [] = T := by
    rw [hb]; split
    · exact replace_none hno
    · rw [replace_dot (fun h => hno (List.mem_of_mem_take h)) (fun h => hno (List.mem_of_mem_drop h)), List.take_append_drop]
  have hdec : decL z p = (if z < 0 then [45] else []) ++ body := by
    unfold decL
    rw [hb]
    by_cases hp : p = 0
    · subst hp; rw [if_pos rfl, if_pos rfl, hT]
    · rw [if_neg hp, if_neg hp, ← hT]
  have hbody : ∃ c r, body = c :: r ∧ digB c = true := by
    cases hT2 : T with
    | nil => rw [hT2] at hTl; simp at hTl
    | cons c r =>
      have hc : digB c = true := by
        rw [hT2, List.all_cons, Bool.and_eq_true] at hdig; exact hdig.1
      rw [hb]; split
      · exact ⟨c, r, hT2, hc⟩
      · rw [hT2]
        have : (c :: r).length - p = ((c :: r).length - p - 1) + 1 := by rw [hT2] at hTl; omega
        rw [this, List.take_succ_cons]
        exact ⟨c, _, rfl, hc⟩
  obtain ⟨c, r, hcr, hc⟩ := hbody
  have h45 : ((45 : UInt8) == c) = false := by
    rw [beq_eq_false_iff_ne]; intro e; rw [← e] at hc; revert hc; decide
  have htrim : Go.Lib.trimLeftB T 48 = dzn z.natAbs := by rw [hT]; exact trim_pad _ _
  unfold plainL
  rw [hdec]
  by_cases hz : z < 0
  · rw [if_pos hz]
    have e1 : Go.Lib.hasPrefix ([45] ++ body) [45] = true := by rw [List.singleton_append, has_cons]; rfl
    have e2 : Go.Lib.trimPrefix ([45] ++ body) [45] = body := by unfold Go.Lib.trimPrefix; rw [e1]; rfl
    rw [e1, e2, hrep, htrim]
    have hn : z.natAbs ≠ 0 := by omega
    have hd : dzn z.natAbs = dr z.natAbs := by unfold dzn; rw [if_neg hn]
    have hne := (dr_spec (z.natAbs + 1) z.natAbs (by omega)).2.2.1
    rw [hd]
    show (if dr z.natAbs = [] then [48] else if true = true then 45 :: dr z.natAbs else dr z.natAbs) = _
    rw [if_neg hne, if_pos rfl, txt_dr, if_pos hz]
  · rw [if_neg hz, List.nil_append]
    have e1 : Go.Lib.hasPrefix body [45] = false := by rw [hcr, has_cons]; exact h45
    have e2 : Go.Lib.trimPrefix body [45] = body := by unfold Go.Lib.trimPrefix; rw [e1]; rfl
    rw [e1, e2, hrep, htrim]
    show (if dzn z.natAbs = [] then [48] else if false = true then 45 :: dzn z.natAbs else dzn z.natAbs) = _
    rw [txt_dr, if_neg hz]
    unfold dzn
    by_cases hn : z.natAbs = 0
    · rw [if_pos hn, if_pos rfl, hn, dr_small (by omega)]; rfl
    · rw [if_neg hn, if_neg (dr_spec (z.natAbs + 1) z.natAbs (by omega)).2.2.1, if_neg (by simp)]
/-! ### Rounding -/
theorem near_half {r q h y : Rat} {z : Int} (hq : 0 < q) (hy : y * q = (z : Rat)) (hh : h * q = 1 / 2) (hz : z = (r * q + 1 / 2).floor) : r - y ≤ h ∧ -(r - y) ≤ h := by
  have b := near_bounds (r * q)
  rw [← hz] at b
  constructor
  · refine Rat.le_of_mul_le_mul_right (c := q) ?_ hq
    have : (r - y) * q = r * q - y * q := by grind
    rw [this, hy, hh]; grind
  · refine Rat.le_of_mul_le_mul_right (c := q) ?_ hq
    have : -(r - y) * q = y * q - r * q := by grind
    rw [this, hy, hh]; grind
theorem divInt_mul (p q : Int) (h : q ≠ 0) : Rat.divInt p q * (q : Rat) = (p : Rat) := by
  rw [Rat.divInt_eq_div]
  have : (q : Rat) ≠ 0 := fun e => h (by have := congrArg Rat.num e; rwa [Rat.num_intCast] at this)
  exact Rat.div_mul_cancel this
end Go.WD
namespace Go.Proofs.YtcleogdmobdnpacGreatRDoor
open Go.RowKit Go.RX Go.WD
theorem parS_txt {r : Rat} (hr : Rg r) : parS (txtR r) = .tuple #[shR r, .int .i64 0] := by
  obtain ⟨f1, f2⟩ := rg_fits hr
  obtain ⟨r1, n1⟩ := txt_right r.num
  obtain ⟨r2, n2⟩ := txt_right (r.den : Int)
  have hd0 : (0 : Int) < (r.den : Int) := by have := r.den_nz; omega
  have hng := ng_pos hd0
  have h48 : (txt (r.den : Int) == [48]) = false := by
    rw [beq_eq_false_iff_ne]
    intro e
    rw [e] at n2
    have : numL [48] = 0 := rfl
    omega
  unfold Fits at f1 f2
  unfold parS txtR
  by_cases hd : r.den = 1
  · rw [if_pos hd]
    obtain ⟨c1, c2⟩ := cut_one (txt_slash r.num)
    have hu : undr (txt r.num) = [49] := by unfold undr; rw [c1]; rfl
    have hu1 : rightB [49] = true := rfl
    have hu2 : ng [49] = false := rfl
    have hu3 : ([49] == ([48] : List UInt8)) = false := rfl
    have hu4 : numL [49] = 1 := rfl
    rw [c2, hu, r1, hu1, hu2, hu3, if_pos (show (true && true && !(false || false)) = true from rfl), n1, hu4, if_pos ⟨f1, by rw [hd] at f2; exact f2⟩, c1]
    have ho := rg_ok hr
    rw [hd] at ho
    have ho : okB (rs r.num) (rs 1) = true := ho
    rw [ho, if_pos (show (true && !(false && ([49] : List UInt8) == [49])) = true from rfl)]
    unfold shR
    rw [hd]; rfl
  · rw [if_neg hd]
    obtain ⟨c1, c2, c3⟩ := cut_two (A := txt r.num) (B := txt (r.den : Int)) (txt_slash r.num)
    have hu : undr (txt r.num ++ 47 :: txt (r.den : Int)) = txt (r.den : Int) := by unfold undr; rw [c1, if_pos rfl, c3]
    have h49 : (txt (r.den : Int) == [49]) = false := by
      rw [beq_eq_false_iff_ne]
      intro e
      have := (one_iff r2).2 e
      omega
    rw [c2, hu, r1, r2, hng, h48, if_pos (show (true && true && !(false || false)) = true from rfl), n1, n2, if_pos ⟨f1, f2⟩, rg_ok hr, h49, Bool.and_false, if_pos (show (true && !false) = true from rfl)]
    rfl
theorem parS_cases (l : List UInt8) : (∃ e : Int, e ≠ 0 ∧ parS l = .tuple #[shv 0 0, .int .i64 e]) ∨ (∃ n d, parS l = .tuple #[shv n d, .int .i64 0] ∧ textV n d = .tuple #[st l, .int .i64 0]) := by
  by_cases h1 : (rightB (cutA l) && rightB (undr l) && !(ng (undr l) || undr l == [48])) = true
  · by_cases h2 : (-(HM : Int) ≤ numL (cutA l) ∧ numL (cutA l) < HM) ∧ (-(HM : Int) ≤ numL (undr l) ∧ numL (undr l) < HM)
    · by_cases h3 : (okB (rs (numL (cutA l))) (rs (numL (undr l))) && !(cutB l && undr l == [49])) = true
      · refine .inr ⟨_, _, by unfold parS; rw [if_pos h1, if_pos h2, if_pos h3], ?_⟩
        rw [Bool.and_eq_true, Bool.and_eq_true] at h1
        rw [Bool.and_eq_true] at h3
        have := parse_text h1.1.1 h1.1.2 h2.1 h2.2 h3.1
        rw [h3.2, beq_iff_eq] at this
        unfold textV
        rw [h3.1, if_pos rfl, this]
      · exact .inl ⟨5, by omega, by unfold parS; rw [if_pos h1, if_pos h2, if_neg h3]⟩
    · exact .inl ⟨6, by omega, by unfold parS; rw [if_pos h1, if_neg h2]⟩
  · exact .inl ⟨5, by omega, by unfold parS; rw [if_neg h1]⟩
end Go.Proofs.YtcleogdmobdnpacGreatRDoor
namespace Go.Proofs.YtcleogdmobdnpacGreatRDoor
open Go.RowKit Go.RX Go.WD
theorem tr_yplain : tree Tryz.prog [] [] [] [] 12 = some (.call false 55 [(.v 0), (.k (.string ⟨#[45]⟩))]
(.call false 50 [(.v 0), (.k (.string ⟨#[45]⟩))]
(.call false 57 [(.v 2), (.k (.string ⟨#[46]⟩)), (.k (.string ⟨#[]⟩))]
(.call false 56 [(.v 3), (.k (.string ⟨#[48]⟩))]
(.prim 3 1 (opr Tryz.f12 3 1) [(.v 4), (.k (.string ⟨#[]⟩))]
(.rq (.bool (.v 5))
(.br (.v 5)
 (.ret [(.k (.string ⟨#[48]⟩))])
 (.rq (.bool (.v 1))
 (.br (.v 1)
  (.prim 6 1 (opr Tryz.f12 6 1) [(.k (.string ⟨#[45]⟩)), (.v 4)]
  (.ret [(.v 6)]))
  (.ret [(.v 4)])))))))))) := by kernel_rfl
theorem np_yplain : (Tryz.prog.funcs[12]?).map (fun fn => fn.params.size + fn.nfree) = some 1 := by kernel_rfl
theorem op_yplain_3_1 : (opr Tryz.f12 3 1).op = .binOp .eql 9 (.tmp 10) (.const (.string ⟨#[]⟩)) 9 := by kernel_rfl
theorem op_yplain_6_1 : (opr Tryz.f12 6 1).op = .binOp .add 9 (.const (.string ⟨#[45]⟩)) (.tmp 13) 9 := by kernel_rfl
theorem tr_ShareBack : tree Tryz.prog [] [(34, false), (57, false), (61, false), (66, false), (70, false), (123, false), (127, false), (131, false), (135, false), (139, false), (143, false), (147, false), (150, false), (159, false), (162, false)] [⟨3, 27, [6], []⟩, ⟨0, 4, [], []⟩] [⟨3, [0, 1, 0, 7, 0, 31, 63, 0], [5, 2, 5, 2, 5, 2, 0, 0], [0, 0, 0, 0, 0, 0, 0, 0], [0, 2, 4, 7, 1, 3, 5, 6], []⟩, ⟨17, [0, 0, 3, 7, 15, 15, 0, 95, 255], [5, 2, 2, 0, 0, 0, 3, 4, 0], [4, 0, 0, 0, 0, 0, 0, 0, 0], [0, 1, 2, 3, 4, 5, 6], [7, 8]⟩, ⟨18, [0, 0, 3, 7, 15, 15, 0, 95, 255], [2, 5, 2, 0, 0, 0, 3, 4, 0], [0, 7, 0, 0, 0, 0, 0, 0, 0], [1, 0, 2, 3, 4, 5, 6], [7, 8]⟩, ⟨27, [0, 1, 3, 7, 7, 31, 63, 127, 255, 511, 255, 2047, 4095, 4095, 16383, 32767, 65535], [0, 0, 0, 5, 0, 1, 0, 0, 0, 2, 5, 2, 0, 0, 2, 0, 0], [0, 0, 0, 1, 0, 0, 0, 0, 0, 0, 1, 0, 0, 0, 0, 0, 0], [0, 1, 2, 3, 4, 5, 6, 7, 8, 10, 9, 11, 12, 13, 14, 15, 16], []⟩] 3 = some (.rq (.cells 6 (.v 0))
(.call false 4 []
(.rq (.bool (.v 3))
(.rq (.isb false (.nt (.v 3)))
(.call true 5 [(.ag (.v 0))]
(.call true 6 [(.ag (.v 0))]
(.call true 7 [(.ag (.v 0))]
(.rq (.cells 16 (.v 4))
(.rq (.cells 16 (.v 5))
(.rq (.cells 16 (.v 6))
(.loop [(.k (.bool false)), (.k (.int .i64 (0)))]
 (.rq (.int .i64 (.v 8))
 (.br (.op2 .lss .i64 (.v 8) (.k (.int .i64 (3))))
  (.rq (.num (.v 8))
  (.rq (.lt 3 (.v 8))
  (.rq (.cells 16 (.sub (.put (.put (.put (.z 35) 0 16 (.v 4) 0 noI) 16 16 (.v 5) 0 noI) 32 16 (.v 6) 0 noI) 0 16 16 (.v 8)))
  (.call false 8 [(.sub (.put (.put (.put (.z 35) 0 16 (.v 4) 0 noI) 16 16 (.v 5) 0 noI) 32 16 (.v 6) 0 noI) 0 16 16 (.v 8))]
  (.rq (.tup 0 (.v 9))
  (.rq (.tup 1 (.v 9))
  (.call false 9 [(.proj (.v 9) 0)]
  (.rq (.tup 0 (.v 10))
  (.rq (.tup 1 (.v 10))
  (.rq (.cells 16 (.proj (.v 10) 0))
  (.rq (.int .i64 (.proj (.v 9) 1))
  (.rq (.isb false (.op2 .neq .i64 (.proj (.v 9) 1) (.k (.int .i64 (0)))))
  (.rq (.int .i64 (.proj (.v 10) 1))
  (.rq (.isb false (.op2 .neq .i64 (.proj (.v 10) 1) (.k (.int .i64 (0)))))
  (.prim 8 9 (opr Tryz.f3 8 9) [(.ag (.proj (.v 10) 0)), (.sub (.put (.put (.put (.z 35) 0 16 (.v 4) 0 noI) 16 16 (.v 5) 0 noI) 32 16 (.v 6) 0 noI) 0 16 16 (.v 8))]
  (.rq (.isb false (.v 11))
  (.prim 8 13 (opr Tryz.f3 8 13) [(.proj (.v 9) 0)]
  (.rq (.int .i64 (.v 12))
  (.rq (.isb false (.op2 .gtr .i64 (.v 12) (.k (.int .i64 (320)))))
  (.rq (.int .u8 (.v 2))
  (.call false 10 [(.sub (.put (.put (.put (.z 35) 0 16 (.v 4) 0 noI) 16 16 (.v 5) 0 noI) 32 16 (.v 6) 0 noI) 0 16 16 (.v 8)), (.cv .i64 (.op2 .rem .u8 (.v 2) (.k (.int .u8 (21)))))]
  (.rq (.tup 0 (.v 13))
  (.rq (.tup 1 (.v 13))
  (.call false 12 [(.proj (.v 13) 0)]
  (.call false 11 [(.v 14)]
  (.rq (.tup 0 (.v 15))
  (.rq (.tup 1 (.v 15))
  (.rq (.cells 8 (.proj (.v 15) 0))
  (.call false 14 [(.k (.int .i64 (10)))]
  (.call false 13 [(.v 16), (.cv .i64 (.op2 .rem .u8 (.v 2) (.k (.int .u8 (21)))))]
  (.rq (.tup 0 (.v 17))
  (.rq (.tup 1 (.v 17))
  (.rq (.cells 8 (.proj (.v 17) 0))
  (.call false 15 [(.ag (.proj (.v 15) 0)), (.ag (.proj (.v 17) 0))]
  (.rq (.tup 0 (.v 18))
  (.rq (.tup 1 (.v 18))
  (.rq (.cells 16 (.proj (.v 18) 0))
  (.call false 16 [(.sub (.put (.put (.put (.z 35) 0 16 (.v 4) 0 noI) 16 16 (.v 5) 0 noI) 32 16 (.v 6) 0 noI) 0 16 16 (.v 8)), (.ag (.proj (.v 18) 0))]
  (.rq (.tup 0 (.v 19))
  (.rq (.tup 1 (.v 19))
  (.rq (.cells 16 (.proj (.v 19) 0))
  (.call false 17 [(.ag (.proj (.v 19) 0))]
  (.rq (.tup 0 (.v 20))
  (.rq (.tup 1 (.v 20))
  (.rq (.cells 16 (.proj (.v 20) 0))
  (.call true 14 [(.k (.int .i64 (2)))]
  (.call true 18 [(.ag (.proj (.v 17) 0)), (.v 21)]
  (.rq (.tup 0 (.v 22))
  (.rq (.tup 1 (.v 22))
  (.rq (.cells 8 (.proj (.v 22) 0))
  (.call true 14 [(.k (.int .i64 (1)))]
  (.call true 15 [(.v 23), (.ag (.proj (.v 22) 0))]
  (.rq (.tup 0 (.v 24))
  (.rq (.tup 1 (.v 24))
  (.rq (.cells 16 (.proj (.v 24) 0))
  (.rq (.int .i64 (.proj (.v 13) 1))
  (.rq (.isb false (.op2 .neq .i64 (.proj (.v 13) 1) (.k (.int .i64 (0)))))
  (.rq (.int .i64 (.proj (.v 15) 1))
  (.rq (.isb false (.op2 .neq .i64 (.proj (.v 15) 1) (.k (.int .i64 (0)))))
  (.rq (.int .i64 (.proj (.v 17) 1))
  (.rq (.isb false (.op2 .neq .i64 (.proj (.v 17) 1) (.k (.int .i64 (0)))))
  (.rq (.int .i64 (.proj (.v 18) 1))
  (.rq (.isb false (.op2 .neq .i64 (.proj (.v 18) 1) (.k (.int .i64 (0)))))
  (.rq (.int .i64 (.proj (.v 19) 1))
  (.rq (.isb false (.op2 .neq .i64 (.proj (.v 19) 1) (.k (.int .i64 (0)))))
  (.rq (.int .i64 (.proj (.v 20) 1))
  (.rq (.isb false (.op2 .neq .i64 (.proj (.v 20) 1) (.k (.int .i64 (0)))))
  (.rq (.int .i64 (.proj (.v 22) 1))
  (.rq (.isb false (.op2 .neq .i64 (.proj (.v 22) 1) (.k (.int .i64 (0)))))
  (.rq (.int .i64 (.proj (.v 24) 1))
  (.rq (.isb false (.op2 .neq .i64 (.proj (.v 24) 1) (.k (.int .i64 (0)))))
  (.call false 19 [(.ag (.proj (.v 20) 0)), (.ag (.proj (.v 24) 0))]
  (.rq (.tup 0 (.v 25))
  (.rq (.tup 1 (.v 25))
  (.rq (.int .i64 (.proj (.v 25) 1))
  (.rq (.isb false (.op2 .neq .i64 (.proj (.v 25) 1) (.k (.int .i64 (0)))))
  (.rq (.int .i64 (.proj (.v 25) 0))
  (.rq (.isb false (.op2 .gtr .i64 (.proj (.v 25) 0) (.k (.int .i64 (0)))))
  (.next 0 [(.v 7), (.op2 .add .i64 (.v 8) (.k (.int .i64 (1))))])))))))))))))))))))))))))))))))))))))))))))))))))))))))))))))))))))))))))))))))
  (.prim 25 2 (opr Tryz.f3 25 2) [(.v 1)]
  (.prim 25 3 (opr Tryz.f3 25 3) [(.v 9), (.k (.int .i64 (40)))]
  (.prim 25 4 (opr Tryz.f3 25 4) [(.v 1), (.v 10)]
  (.call false 9 [(.v 11)]
  (.rq (.tup 0 (.v 12))
  (.rq (.tup 1 (.v 12))
  (.rq (.cells 16 (.proj (.v 12) 0))
  (.join 1
   (.rq (.int .i64 (.proj (.v 12) 1))
   (.br (.op2 .neq .i64 (.proj (.v 12) 1) (.k (.int .i64 (0))))
    (.prim 27 5 (opr Tryz.f3 27 5) [(.ag (.proj (.v 12) 0)), (.cat (.z 31) 8 (.z 31))]
    (.rq (.bool (.v 13))
    (.br (.v 13)
     (.next 1 [(.k (.bool true))])
     (.call true 20 [(.v 11)]
     (.call true 8 [(.ag (.proj (.v 12) 0))]
     (.rq (.tup 0 (.v 15))
     (.rq (.tup 1 (.v 15))
     (.eff true 27 14 (opr Tryz.f3 27 14) [(.v 14), (.proj (.v 15) 0), (.proj (.v 15) 1)]
     (.next 1 [(.v 16)])))))))))
    (.call true 20 [(.v 11)]
    (.call true 8 [(.ag (.proj (.v 12) 0))]
    (.rq (.tup 0 (.v 14))
    (.rq (.tup 1 (.v 14))
    (.eff true 27 14 (opr Tryz.f3 27 14) [(.v 13), (.proj (.v 14) 0), (.proj (.v 14) 1)]
    (.next 1 [(.v 15)]))))))))
   (.ret [(.v 13)])))))))))))))))))))))) := by kernel_rfl
theorem np_ShareBack : (Tryz.prog.funcs[3]?).map (fun fn => fn.params.size + fn.nfree) = some 3 := by kernel_rfl
theorem op_ShareBack_8_9 : (opr Tryz.f3 8 9).op = .binOp .neq 33 (.tmp 62) (.tmp 63) 33 := by kernel_rfl
theorem op_ShareBack_8_13 : (opr Tryz.f3 8 13).op = .call ⟨.builtin .len, #[(.tmp 67)], #[9]⟩ := by kernel_rfl
theorem op_ShareBack_25_2 : (opr Tryz.f3 25 2).op = .call ⟨.builtin .len, #[(.tmp 165)], #[9]⟩ := by kernel_rfl
theorem op_ShareBack_25_3 : (opr Tryz.f3 25 3).op = .call ⟨.builtin .min, #[(.tmp 166), (.const (.int .i64 (40)))], #[3, 3]⟩ := by kernel_rfl
theorem op_ShareBack_25_4 : (opr Tryz.f3 25 4).op = .slice 9 (.tmp 164) none (some (.tmp 167)) none := by kernel_rfl
theorem op_ShareBack_27_5 : (opr Tryz.f3 27 5).op = .binOp .eql 33 (.tmp 177) (.tmp 178) 33 := by kernel_rfl
theorem op_ShareBack_27_14 : (opr Tryz.f3 27 14).op = .call ⟨.value (.tmp 183), #[(.tmp 186), (.tmp 187)], #[9, 36]⟩ := by kernel_rfl
/-- What the library keeps of a variable of its own. -/
def Mlen (H : PH) : Prop := ∃ cs T fz m, H 2 = some (.cells cs T fz) ∧ cs[0]? = some (.int .i64 m)
theorem Mlen.mono {H H' : PH} (h : Mlen H) (hl : PH.le H H') : Mlen H' := by
  obtain ⟨cs, T, fz, m, h1, h2⟩ := h; exact ⟨cs, T, fz, m, hl _ _ h1, h2⟩
theorem det_hasPre (l : List UInt8) : Det Tryz.prog 55 [st l, st [45]] (.bool (Go.Lib.hasPrefix l [45])) := fun w =>
  (Go.Proofs.Tryz.strings_HasPrefix (ba l) (ba [45]) w).mono fun _ _ ⟨he, hw⟩ => ⟨he, by rw [hw]; exact Ext.refl _⟩
theorem det_trimPre (l : List UInt8) : Det Tryz.prog 50 [st l, st [45]] (st (Go.Lib.trimPrefix l [45])) := fun w =>
  (Go.Proofs.Tryz.strings_TrimPrefix (ba l) (ba [45]) w).mono fun _ _ ⟨he, hw⟩ => ⟨he, by rw [hw]; exact Ext.refl _⟩
theorem det_trimLeft (l : List UInt8) : Det Tryz.prog 56 [st l, st [48]] (st (Go.Lib.trimLeftB l 48)) := fun w =>
  (Go.Proofs.Tryz.strings_TrimLeft_one (ba l) 48 (by decide) w).mono fun _ _ ⟨he, hw⟩ => ⟨he, by rw [hw]; exact Ext.refl _⟩
section
variable {H : PH}
theorem con_replAll (hM : Mlen H) (l : List UInt8) (hl : l.length ≤ 100000) : Con Tryz.prog 57 [st l, st [46], st []] H fun u H' => H' = H ∧ u = st (Go.Lib.replaceAll l [46] []) := fun w hw => by
  obtain ⟨cs, T, fz, m, h1, h2⟩ := hM
  have hb := hw _ _ h1
  have hm : w.cell? ⟨2, 0, none⟩ = some (.int .i64 m) := by rw [cell_blk hb]; exact h2
  have hs : (ba l).size = l.length := ba_size l
  refine (Go.Proofs.Tryz.strings_ReplaceAll (ba l) (ba [46]) (ba []) m w (by omega) hm (by decide) (by
    have : (ba []).size = 0 := rfl
    rw [this, Nat.mul_zero]; omega)).mono fun e w' ⟨he, hx⟩ => ⟨_, H, he, Step.of_ext hw hx, rfl, rfl⟩
theorem con_plain (hM : Mlen H) (l : List UInt8) (hl : l.length ≤ 100000) (hr : (plainL l).length ≤ 100000) : Con Tryz.prog 12 [st l] H fun u H' => H' = H ∧ u = st (plainL l) := by
  have ht : (Go.Lib.trimPrefix l [45]).length ≤ 100000 := by
    unfold Go.Lib.trimPrefix; split
    · rw [List.length_drop]; omega
    · exact hl
  refine con_of_tree mixed tr_yplain np_yplain rfl (den_det (det_hasPre l) rfl (den_det (det_trimPre l) rfl ?_))
  simp only [List.cons_append, List.nil_append]
  refine den_call (con_replAll hM (Go.Lib.trimPrefix l [45]) ht) rfl ?_
  rintro _ H1 ⟨rfl, rfl⟩
  simp only [List.cons_append, List.nil_append]
  refine ⟨fun h => (nomatch h), den_det (det_trimLeft _) rfl ?_⟩
  simp only [List.cons_append, List.nil_append]
  unfold plainL at hr ⊢
  generalize Go.Lib.trimLeftB (Go.Lib.replaceAll (Go.Lib.trimPrefix l [45]) [46] []) 48 = c at hr ⊢
  refine den_prim ((st_eq (l := c) (m := []) (vs := [st c, st []]) op_yplain_3_1 rfl rfl uStr gStr).rds _) rfl (den_rq ⟨_, rfl⟩ (den_br rfl (fun h => ?_) (fun h => ?_)))
  · have h := beq_iff_eq.1 h
    simp only [h, if_true]
    exact den_ret rfl ⟨rfl, rfl⟩
  · have h := beq_eq_false_iff_ne.1 h
    simp only [h, if_false] at hr ⊢
    refine den_rq ⟨_, rfl⟩ (den_br rfl (fun h2 => ?_) (fun h2 => ?_))
    · simp only [h2, if_true] at hr ⊢
      exact den_prim ((st_add (l := [45]) (m := c) (vs := [st [45], st c]) op_yplain_6_1 rfl rfl (by simp only [List.length_cons, List.length_nil] at hr ⊢; omega)).rds _) rfl (den_ret rfl ⟨rfl, rfl⟩)
    · simp only [h2, Bool.false_eq_true, if_false]
      exact den_ret rfl ⟨rfl, rfl⟩
end
/-! ### Three shares -/
theorem z_s3 : zeroV Tryz.prog 35 = .agg ((words 0 ++ words 0) ++ (words 0 ++ words 0) ++ (words 0 ++ words 0)) := by
  have : zeroV Tryz.prog 35 = .agg #[.int .u64 0, .int .u64 0, .int .u64 0, .int .u64 0, .int .u64 0, .int .u64 0, .int .u64 0, .int .u64 0, .int .u64 0, .int .u64 0, .int .u64 0, .int .u64 0, .int .u64 0, .int .u64 0, .int .u64 0, .int .u64 0, .int .u64 0, .int .u64 0, .int .u64 0, .int .u64 0, .int .u64 0, .int .u64 0, .int .u64 0, .int .u64 0, .int .u64 0, .int .u64 0, .int .u64 0, .int .u64 0, .int .u64 0, .int .u64 0, .int .u64 0, .int .u64 0, .int .u64 0, .int .u64 0, .int .u64 0, .int .u64 0, .int .u64 0, .int .u64 0, .int .u64 0, .int .u64 0, .int .u64 0, .int .u64 0, .int .u64 0, .int .u64 0, .int .u64 0, .int .u64 0, .int .u64 0, .int .u64 0] := by kernel_rfl
  rw [this]; simp [words, wf, dig_zero]
theorem s3_put (a b c d e f : Nat) : spl (spl (spl ((words 0 ++ words 0) ++ (words 0 ++ words 0) ++ (words 0 ++ words 0)) 0 (words a ++ words b).toList) 16 (words c ++ words d).toList) 32 (words e ++ words f).toList = (words a ++ words b) ++ (words c ++ words d) ++ (words e ++ words f) := by
  simp [words, wf, spl]
theorem s3_ext {A B C : Array Value} (h1 : A.size = 16) (h2 : B.size = 16) (h3 : C.size = 16) : (A ++ B ++ C).extract 0 16 = A ∧ (A ++ B ++ C).extract 16 32 = B ∧ (A ++ B ++ C).extract 32 48 = C := by
  have e1 : A.toList.length = 16 := by simpa using h1
  have e2 : B.toList.length = 16 := by simpa using h2
  have e3 : C.toList.length = 16 := by simpa using h3
  refine ⟨?_, ?_, ?_⟩
  · apply Array.ext'
    simp [h1, List.take_of_length_le]
  · apply Array.ext'
    simp [h1, h2, List.take_of_length_le, List.drop_of_length_le]
  · apply Array.ext'
    simp [h1, h2, h3, List.take_of_length_le, List.drop_of_length_le]
def pk3 (x y z : Rat) (i : Nat) : Rat := if i = 0 then x else if i = 1 then y else z
theorem pick3 {x y z : Rat} {i : Nat} (hi : i < 3) {ρ : List Value} (h4 : ρ.getD 4 undef = shR x) (h5 : ρ.getD 5 undef = shR y) (h6 : ρ.getD 6 undef = shR z) (h8 : ρ.getD 8 undef = iv i) :
    D Tryz.prog ρ (.sub (.put (.put (.put (.z 35) 0 16 (.v 4) 0 noI) 16 16 (.v 5) 0 noI) 32 16 (.v 6) 0 noI) 0 16 16 (.v 8)) = shR (pk3 x y z i) := by
  show Value.agg ((spl (spl (spl (zeroV Tryz.prog 35).cells 0 (ρ.getD 4 undef).cells.toList) 16 (ρ.getD 5 undef).cells.toList) 32 (ρ.getD 6 undef).cells.toList).extract (0 + 16 * ixOf (ρ.getD 8 undef)) (0 + 16 * ixOf (ρ.getD 8 undef) + 16)) = _
  rw [h4, h5, h6, h8, z_s3]
  have e := s3_put (rs x.num) (rs (x.den : Int)) (rs y.num) (rs (y.den : Int)) (rs z.num) (rs (z.den : Int))
  obtain ⟨x0, x1, x2⟩ := s3_ext (shv_one (rs x.num) (rs (x.den : Int))).1 (shv_one (rs y.num) (rs (y.den : Int))).1 (shv_one (rs z.num) (rs (z.den : Int))).1
  have e' : spl (spl (spl (Value.agg ((words 0 ++ words 0) ++ (words 0 ++ words 0) ++ (words 0 ++ words 0))).cells 0 (shR x).cells.toList) 16 (shR y).cells.toList) 32 (shR z).cells.toList = _ := e
  rw [e']
  unfold pk3
  rcases (show i = 0 ∨ i = 1 ∨ i = 2 from by omega) with rfl | rfl | rfl
  · exact congrArg Value.agg x0
  · exact congrArg Value.agg x1
  · exact congrArg Value.agg x2
theorem txtR_len {r : Rat} (hr : Rg r) : (txtR r).length ≤ 311 := by
  obtain ⟨f1, f2⟩ := rg_fits hr
  have t1 := txt_len f1
  have t2 := txt_len f2
  unfold txtR; split
  · omega
  · simp; omega
theorem decL_len {z : Int} {p : Nat} (hp : p ≤ 20) (hz : z.natAbs < 10 ^ 100) : (decL z p).length ≤ 200 := by
  have := dzn_len z.natAbs 99 hz
  have hl : (pad (p + 1) (dzn z.natAbs)).length ≤ 121 := by rw [pad_len]; omega
  unfold decL
  rw [List.length_append]
  have h1 : (if z < 0 then [45] else ([] : List UInt8)).length ≤ 1 := by split <;> simp
  generalize (if z < 0 then [45] else ([] : List UInt8)) = sg at h1 ⊢
  split
  · rename_i h0
    subst h0
    have hl2 : (pad 1 (dzn z.natAbs)).length ≤ 121 := hl
    omega
  · rw [List.length_append, List.length_take, List.length_cons, List.length_drop]; omega
theorem go_text {H : PH} {r : Rat} (hr : Rg r) : Con Tryz.prog 8 [shR r] H fun u H' => PH.le H H' ∧ u = .tuple #[st (txtR r), .int .i64 0] :=
  (con_sText _ _).mono fun _ _ ⟨l, h⟩ => ⟨l, by rw [h]; unfold textV; rw [rg_ok hr, rg_rat hr]; rfl⟩
theorem go_parse {H : PH} {r : Rat} (hr : Rg r) : Con Tryz.prog 9 [st (txtR r)] H fun u H' => PH.le H H' ∧ u = .tuple #[shR r, .int .i64 0] :=
  (con_sParse _ (by have := txtR_len hr; omega)).mono fun _ _ ⟨l, h⟩ => ⟨l, h.trans (parS_txt hr)⟩
theorem go_dec {H : PH} {r : Rat} {k : Nat} {z : Int} (hr : Rg r) (hk : k ≤ 20) (hz : (r * (((10 : Int) ^ k : Int) : Rat) + 1 / 2).floor = z) : Con Tryz.prog 10 [shR r, .int .i64 (k : Nat)] H fun u H' => PH.le H H' ∧ u = .tuple #[st (decL z k), .int .i64 0] :=
  (con_sDecimal _ _ _).mono fun _ _ ⟨l, h⟩ => ⟨l, by
    rw [h]; unfold decV decZ
    rw [rg_ok hr, rg_rat hr, if_pos rfl, if_neg (by omega), Int.toNat_natCast, hz]⟩
theorem con_sTextG {H : PH} {a b : Nat} {l : List UInt8} (h : textV a b = .tuple #[st l, .int .i64 0]) : Con Tryz.prog 8 [shv a b] H fun u H' => PH.le H H' ∧ u = .tuple #[st l, .int .i64 0] := (con_sText a b).mono fun _ _ ⟨l, hu⟩ => ⟨l, hu.trans h⟩
theorem con_sParseG {H : PH} {l : List UInt8} {n d : Nat} {e : Int} (hl : l.length < 9000000000000000000) (h : parS l = .tuple #[shv n d, .int .i64 e]) : Con Tryz.prog 9 [st l] H fun u H' => PH.le H H' ∧ u = .tuple #[shv n d, .int .i64 e] := (con_sParse l hl).mono fun _ _ ⟨l, hu⟩ => ⟨l, hu.trans h⟩
theorem big100 {K J : Nat} (h : K ≤ 3 * J) : 2 ^ K ≤ 10 ^ J := Nat.le_trans (Nat.pow_le_pow_right (by omega) h) (by rw [Nat.pow_mul]; exact Nat.pow_le_pow_left (by omega) J)
theorem ten_pos (k : Nat) : (0 : Int) < 10 ^ k := Int.pow_pos (by omega)
theorem parse_wide {z : Int} (hz : Fits z) : parseV (txt z) = .tuple #[iw z, .int .i64 0] := by
  obtain ⟨h1, h2⟩ := txt_right z
  unfold parseV
  rw [if_pos h1, h2]; exact told_fits hz
set_option maxRecDepth 100000 in
set_option maxHeartbeats 4000000 in
theorem con_shareBack {H : PH} (hM : Mlen H) {v : Value} (h : Dr2 H v) (s : List UInt8) (hs : s.length ≤ maxLen) (p : Nat) (hp : p < 256) : Con Tryz.prog 3 [v, st s, .int .u8 (p : Nat)] H fun u H' => u = .bool true ∧ PH.le H H' := by
  have hrq := h.rq
  have h' := h
  simp only [maxLen] at hs
  obtain ⟨a0, a1, a2, b0, b1, b2, rfl, -, -⟩ := h
  obtain ⟨k, hk⟩ : ∃ k : Nat, k = p % 21 := ⟨_, rfl⟩
  have hk20 : k ≤ 20 := by omega
  have ek : IntKind.i64.wrap ((p : Int).tmod 21) = (k : Int) := by rw [show (p : Int).tmod 21 = ((p % 21 : Nat) : Int) from tmodn p 21, ← hk]; exact wfit (by omega) (by omega)
  obtain ⟨q, hq⟩ : ∃ q : Int, q = 10 ^ k := ⟨_, rfl⟩
  have q0 : 0 < q := by rw [hq]; exact ten_pos k
  have qa : q.natAbs < 2 ^ 70 := by rw [hq, Int.natAbs_pow]; exact ten20 hk20
  have Fq : Fits q := fits_abs qa (by omega)
  have f1 : Fits 1 := fits_small (by omega) (by omega)
  have f2 : Fits 2 := fits_small (by omega) (by omega)
  have f10 : Fits 10 := fits_small (by omega) (by omega)
  have q2a : (q * 2).natAbs < 2 ^ 72 := mul_abs (j := 70) (k := 2) qa (by omega)
  have Fq2 : Fits (q * 2) := fits_abs q2a (by omega)
  have gh : Rg (Rat.divInt 1 (q * 2)) := rg_of (low_bound (k := 72) (by omega) (by decide) q2a) (by omega)
  have kpow := det_Pow (rs 10) (k : Int)
  have kmul := det_Mul (rs q) (rs 2)
  have epow : powV (toI (rs 10)) (k : Int) = .tuple #[iw q, .int .i64 0] := by
    rw [toI_rs f10]
    unfold powV
    rw [if_neg (by omega), Int.toNat_natCast, ← hq]
    exact told_fits Fq
  rw [epow] at kpow
  rw [toI_rs Fq, toI_rs f2, told_fits Fq2] at kmul
  refine con_of_tree mixed tr_ShareBack np_ShareBack rfl (den_rq hrq (den_call (con_hworks H) rfl ?_))
  rintro _ H1 ⟨rfl, l1⟩
  simp only [List.cons_append, List.nil_append]
  refine ⟨fun h => (nomatch h), den_rq ⟨_, rfl⟩ (den_rq rfl (den_call (con_qShare (h'.mono l1)) rfl ?_))⟩
  rintro _ H2 ⟨l2, x, rfl, hx⟩
  simp only [List.cons_append, List.nil_append]
  refine ⟨fun _ => l2, den_call (con_qShort (h'.mono (l1.trans l2))) rfl ?_⟩
  rintro _ H3 ⟨l3, y, rfl, hy⟩
  simp only [List.cons_append, List.nil_append]
  refine ⟨fun _ => l3, den_call (con_qUnit (h'.mono (l1.trans (l2.trans l3)))) rfl ?_⟩
  rintro _ H4 ⟨l4, z3, rfl, hz3⟩
  simp only [List.cons_append, List.nil_append]
  have l14 := l1.trans (l2.trans (l3.trans l4))
  refine ⟨fun _ => l4, den_rq (shv_one _ _) (den_rq (shv_one _ _) (den_rq (shv_one _ _) ⟨fun vals H' => ∃ i : Nat, vals = [.bool false, iv i] ∧ i ≤ 3 ∧ PH.le H H', fun vals _ => (3 - intOf (vals.getD 1 undef)).toNat, ⟨0, rfl, by omega, l14⟩, ?_⟩))⟩
  rintro vals H5 - ⟨i, rfl, hi, l5⟩
  simp only [List.cons_append, List.nil_append]
  refine den_rq ⟨_, rfl⟩ (den_br (b := decide ((i : Int) < 3)) rfl (fun hb => ?_) (fun hb => ?_))
  · have hb : i < 3 := by have := of_decide_eq_true hb; omega
    have e1 : IntKind.i64.wrap ((i : Int) + 1) = ((i + 1 : Nat) : Int) := wadd1 (by omega)
    obtain ⟨r, hr⟩ : ∃ r, r = pk3 x y z3 i := ⟨_, rfl⟩
    have rb : Rb 201 r := by
      rw [hr]; unfold pk3; split
      · exact hx
      · split
        · exact hy.le (by omega)
        · exact hz3.le (by omega)
    have gr : Rg r := rg_of rb (by omega)
    obtain ⟨z, hz⟩ : ∃ z, z = (r * ((q : Int) : Rat) + 1 / 2).floor := ⟨_, rfl⟩
    have hzk : (r * (((10 : Int) ^ k : Int) : Rat) + 1 / 2).floor = z := by rw [← hq]; exact hz.symm
    have rbq : Rb 70 ((q : Int) : Rat) := by rw [hq]; exact rb_ten hk20
    obtain ⟨K, hK⟩ : ∃ K : Nat, K = 274 := ⟨_, rfl⟩
    have za : z.natAbs < 2 ^ K := by rw [hz]; exact floor_abs ((rb.mul rbq (m := 271) (by omega)).add rb_half2 (m := K) (by omega))
    have Fz : Fits z := fits_abs za (by omega)
    have rbt : Rb K (Rat.divInt z q) := low_bound (by omega) za (Nat.lt_of_lt_of_le qa (Nat.pow_le_pow_right (by omega) (by omega)))
    have gt : Rg (Rat.divInt z q) := rg_of rbt (by omega)
    have gd : Rg (r - Rat.divInt z q) := by rw [Rat.sub_eq_add_neg]; exact rg_of (rb.add rbt.neg (m := 476) (by omega)) (by omega)
    have hzl : (decL z k).length ≤ 200 := decL_len hk20 (Nat.lt_of_lt_of_le za (big100 (J := 100) (by omega)))
    have hpl : (plainL (decL z k)).length ≤ 100000 := by rw [plain_dec]; have := txt_len Fz; omega
    refine den_rq ⟨_, _, rfl⟩ (den_rq ⟨by show (0 : Int) ≤ (i : Int); omega, by show (i : Int) < 3; omega⟩ (den_rq (r := .cells 16 _) (by simp only [Rq.holds]; rw [pick3 (x := x) (y := y) (z := z3) hb rfl rfl rfl rfl]; exact shv_one _ _) (den_call (go_text gr) (by rw [List.map_cons, List.map_nil, pick3 (x := x) (y := y) (z := z3) hb rfl rfl rfl rfl, hr]) ?_)))
    rintro _ H6 ⟨l6, rfl⟩
    simp only [List.cons_append, List.nil_append]
    refine ⟨fun h => (nomatch h), den_t2 rfl (den_call (go_parse gr) rfl ?_)⟩
    rintro _ H7 ⟨l7, rfl⟩
    simp only [List.cons_append, List.nil_append]
    have htl := txtR_len gr
    refine ⟨fun h => (nomatch h), den_t2s rfl (den_e0 rfl (den_e0 rfl (den_prim ((ne_share_self (a := rs r.num) (b := rs (r.den : Int)) op_ShareBack_8_9 (fun _ _ => rfl) (fun _ _ => rfl)).rds _) (by rw [List.map_cons, List.map_cons, List.map_nil, pick3 (x := x) (y := y) (z := z3) hb rfl rfl rfl rfl, ← hr]; rfl) (den_rq rfl (den_prim ((st_len (l := txtR r) (vs := [st (txtR r)]) op_ShareBack_8_13 rfl uStr).rds _) rfl (den_rq ⟨_, rfl⟩ (den_rq ?_ (den_rq ⟨_, rfl⟩ (den_call (go_dec gr hk20 hzk) ?_ ?_)))))))))⟩
    · show Value.bool (decide (((txtR r).length : Int) > 320)) = _
      rw [decide_eq_false (by omega)]
    · rw [List.map_cons, List.map_cons, List.map_nil, pick3 (x := x) (y := y) (z := z3) hb rfl rfl rfl rfl, ← hr]
      exact congrArg (fun w => [shR r, Value.int .i64 w]) ek
    rintro _ H8 ⟨l8, rfl⟩
    simp only [List.cons_append, List.nil_append]
    have l58 := l6.trans (l7.trans l8)
    refine ⟨fun h => (nomatch h), den_t2 rfl (den_call (con_plain (hM.mono (l5.trans l58)) (decL z k) (by omega) hpl) rfl ?_)⟩
    rintro _ H9 ⟨rfl, rfl⟩
    rw [plain_dec]
    have kpar := det_Parse (txt z) (by have := txt_len Fz; omega)
    rw [parse_wide Fz] at kpar
    simp only [List.cons_append, List.nil_append]
    refine ⟨fun h => (nomatch h), den_det kpar rfl (den_t2w rfl (den_det (det_Of 10 (by omega) (by omega)) rfl (den_det kpow (congrArg (fun w => [iw 10, Value.int .i64 w]) ek) (den_t2w rfl (den_call (go_make Fz Fq (by omega) rfl gt) rfl ?_)))))⟩
    rintro _ H10 ⟨l10, rfl⟩
    simp only [List.cons_append, List.nil_append]
    refine ⟨fun h => (nomatch h), den_t2s rfl (den_call (go_sub gr gt rfl gd) (by rw [List.map_cons, List.map_cons, List.map_nil, pick3 (x := x) (y := y) (z := z3) hb rfl rfl rfl rfl, ← hr]; rfl) ?_)⟩
    rintro _ H11 ⟨l11, rfl⟩
    simp only [List.cons_append, List.nil_append]
    refine ⟨fun h => (nomatch h), den_t2s rfl (den_call (go_abs gd) rfl ?_)⟩
    rintro _ H12 ⟨l12, rfl⟩
    simp only [List.cons_append, List.nil_append]
    refine ⟨fun h => (nomatch h), den_t2s rfl (den_det (det_Of 2 (by omega) (by omega)) rfl (den_det kmul rfl (den_t2w rfl (den_det (det_Of 1 (by omega) (by omega)) rfl (den_call (go_make f1 Fq2 (by omega) rfl gh) rfl ?_)))))⟩
    rintro _ H13 ⟨l13, rfl⟩
    simp only [List.cons_append, List.nil_append]
    refine ⟨fun _ => l13, den_t2s rfl (den_e0 rfl (den_e0 rfl (den_e0 rfl (den_e0 rfl (den_e0 rfl (den_e0 rfl (den_e0 rfl (den_e0 rfl (den_call (go_cmp (rg_abs gd) gh) rfl ?_)))))))))⟩
    rintro _ H15 ⟨l15, rfl⟩
    simp only [List.cons_append, List.nil_append]
    have hqr : (0 : Rat) < (q : Rat) := Rat.intCast_lt_intCast.2 q0
    have hmid := divInt_mul 1 (q * 2) (by omega)
    have hn := near_half (r := r) (q := (q : Rat)) (h := Rat.divInt 1 (q * 2)) (y := Rat.divInt z q) (z := z) hqr (divInt_mul z q (by omega)) (by
      rw [Rat.intCast_mul] at hmid
      have e2 : ((2 : Int) : Rat) = 2 := rfl
      have e3 : ((1 : Int) : Rat) = 1 := rfl
      rw [e2, e3] at hmid
      grind) hz
    have hle : sgR (absQ (r - Rat.divInt z q)) (Rat.divInt 1 (q * 2)) ≤ 0 := by
      rw [sgR_le]; unfold absQ; split
      · exact hn.2
      · exact hn.1
    refine ⟨fun h => (nomatch h), den_t2 rfl (den_e0 rfl (den_cmp rfl ?_ ⟨⟨i + 1, ?_, by omega, l5.trans (l58.trans (l10.trans (l11.trans (l12.trans (l13.trans l15)))))⟩, ?_⟩))⟩
    · show Value.bool (decide (sgR (absQ (r - Rat.divInt z q)) (Rat.divInt 1 (q * 2)) > 0)) = _
      rw [decide_eq_false (by omega)]
    · simp only [rxs, iv, e1]
    · simp only [rxs, iv, e1]
      omega
  obtain ⟨m, hm⟩ : ∃ m, m = min s.length 40 := ⟨_, rfl⟩
  have em : (if (40 : Int) < (s.length : Int) then (40 : Int) else (s.length : Int)) = (m : Int) := by split <;> omega
  refine den_prim ((st_len (l := s) (vs := [st s]) op_ShareBack_25_2 rfl uStr).rds _) rfl (den_prim ((yld_imin (a := (s.length : Nat)) (b := 40) (vs := [.int .i64 (s.length : Nat), .int .i64 40]) op_ShareBack_25_3 rfl rfl).rds _) rfl (den_prim ((st_take (l := s) (k := .i64) (i := m) (vs := [st s, .int .i64 (m : Nat)]) op_ShareBack_25_4 rfl rfl uStr (by omega)).rds _) (by simp only [List.cons_append, List.nil_append, rxs, em]) ?_))
  simp only [List.cons_append, List.nil_append]
  obtain ⟨t, ht⟩ : ∃ t, t = s.take m := ⟨_, rfl⟩
  have htl : t.length ≤ 40 := by rw [ht, List.length_take]; omega
  rw [← ht]
  rcases parS_cases t with ⟨e, he, hpar⟩ | ⟨n, d, hpar, htx⟩
  · refine den_call (con_sParseG (by omega) hpar) rfl ?_
    rintro _ H6 ⟨l6, rfl⟩
    simp only [List.cons_append, List.nil_append]
    refine ⟨fun h => (nomatch h), den_t2s rfl ⟨fun vals H' => vals = [.bool true] ∧ H' = H6, den_rq ⟨_, rfl⟩ (den_true (by show Value.bool (e != 0) = _; rw [bne_iff_ne.2 he]) (den_prim ((eq_share_self (a := 0) (b := 0) op_ShareBack_27_5 (fun _ _ => rfl) (fun _ _ => rfl)).rds _) ?_ (den_rq ⟨_, rfl⟩ (den_true rfl ⟨rfl, rfl⟩)))), ?_⟩⟩
    · rw [List.map_cons, List.map_cons, List.map_nil]
      exact congrArg (fun w => [shv 0 0, w]) z_share
    rintro vals H7 - ⟨rfl, rfl⟩
    exact den_ret rfl ⟨rfl, l5.trans l6⟩
  · refine den_call (con_sParseG (by omega) hpar) rfl ?_
    rintro _ H6 ⟨l6, rfl⟩
    simp only [List.cons_append, List.nil_append]
    refine ⟨fun h => (nomatch h), den_t2s rfl ⟨fun vals H' => vals = [.bool true] ∧ PH.le H6 H', den_rq ⟨_, rfl⟩ (den_false rfl (den_call (con_htells t) rfl ?_)), ?_⟩⟩
    · rintro _ H7 ⟨b, rfl, l7, hb⟩
      simp only [List.cons_append, List.nil_append]
      refine ⟨fun _ => l7, den_call (con_sTextG htx) rfl ?_⟩
      rintro _ H8 ⟨l8, rfl⟩
      simp only [List.cons_append, List.nil_append]
      refine ⟨fun _ => l8, den_t2 rfl (den_eff (opn_callv (f := 70) (caps := #[ptr b]) (vs := [st t, .int .i64 0]) op_ShareBack_27_14 rfl rfl ent_htells1 (con_htells1 (l8 _ _ hb))) rfl ?_)⟩
      rintro _ H9 ⟨l9, rfl⟩
      exact ⟨fun _ => l9, rfl, l7.trans (l8.trans l9)⟩
    rintro vals H7 - ⟨rfl, l7⟩
    exact den_ret rfl ⟨rfl, l5.trans (l6.trans l7)⟩
end Go.Proofs.YtcleogdmobdnpacGreatRDoor
