/- The shelf's contracts at this program, as the kit's own tools have written them. -/
import Derived.Shelf.Small.Bits
import Derived.Shelf.Strconv.Itoa0
import Derived.Ground.GgsProg
import Derived.Shelf.GgSortFunc.Insertion
import Derived.Shelf.GgSortFunc.Small
import Derived.Shelf.GgSortFunc.InsertionK
import Derived.Shelf.GgSortFunc.SmallK
import Derived.Shelf.GgSortFunc.Compose
import Derived.Shelf.GgSortFunc.LotD
import Derived.Shelf.Bits.Mul64
import Derived.Shelf.SlSortFunc.Xorshift
import Derived.Shelf.SlSortFuncK.ComposeK
import Derived.Shelf.SlSortFuncK.SiftDownK
import Derived.Shelf.SlSortFuncK.HeapSortK
import Derived.Shelf.SlSortFuncK.PartialInsertionK
import Derived.Shelf.SlSortFuncK.LotDK
import Derived.Shelf.SlSortFuncK.PivotK
import Derived.Shelf.SlSortFuncK.PartitionK
import Derived.Shelf.SlSortFuncK.PdqK
import Derived.Shelf.SlSortFuncK.WholeK
import Derived.Test.YtdbmkfmenfcbiaaGreatProg
namespace Go.Proofs
open Go.Shelf
def Tryz.lays134_ren : Go.Shelf.Ren:=⟨fun | 134 => 172 | 129 => 127 | n => n,fun | 53 => 163 | 3 => 3 | 4 => 4 | 46 => 124 | 5 => 5 | 9 => 9 | n => n,fun | n => n⟩
theorem Tryz.lays134 : Go.Proofs.Lays.n134 Tryz.prog Tryz.lays134_ren:={
 mixed:=by kernel_rfl
 f129:=Tryz.func127.trans (congrArg some (by kernel_rfl))
 f134:=Tryz.func172.trans (congrArg some (by kernel_rfl))
 t3:=Tryz.underlying3
 a3:=Tryz.isAgg3
 z3:=Tryz.sizeOf3
 v3:=Tryz.zeroValue3
 t4:=Tryz.underlying4
 a4:=Tryz.isAgg4
 z4:=Tryz.sizeOf4
 v4:=Tryz.zeroValue4
 t5:=Tryz.underlying5
 a5:=Tryz.isAgg5
 z5:=Tryz.sizeOf5
 v5:=Tryz.zeroValue5
 t9:=Tryz.underlying9
 a9:=Tryz.isAgg9
 z9:=Tryz.sizeOf9
 v9:=Tryz.zeroValue9
 t46:=Tryz.underlying124
 a46:=Tryz.isAgg124
 z46:=Tryz.sizeOf124
 v46:=Tryz.zeroValue124
 t53:=Tryz.underlying163
 a53:=Tryz.isAgg163
 z53:=Tryz.sizeOf163
 v53:=Tryz.zeroValue163 }
theorem Tryz.bits_LeadingZeros64 (x : Int) (w : World) (h0 : 0 ≤ x) (h1 : x ≤ 18446744073709551615) :
  Calls Tryz.prog 172 #[.int .u64 x] w fun e w' => e = .returned (.int .i64 (64 - (Lib.bitLen x.toNat : Int)))∧w' = w:=Any.bits_LeadingZeros64 Tryz.lays134 x w h0 h1
def Tryz.lays129_ren : Go.Shelf.Ren:=⟨fun | 129 => 127 | n => n,fun | 53 => 163 | 3 => 3 | 4 => 4 | 46 => 124 | 5 => 5 | 9 => 9 | n => n,fun | n => n⟩
theorem Tryz.lays129 : Go.Proofs.Lays.n129 Tryz.prog Tryz.lays129_ren:={
 mixed:=by kernel_rfl
 f129:=Tryz.func127.trans (congrArg some (by kernel_rfl))
 t3:=Tryz.underlying3
 a3:=Tryz.isAgg3
 z3:=Tryz.sizeOf3
 v3:=Tryz.zeroValue3
 t4:=Tryz.underlying4
 a4:=Tryz.isAgg4
 z4:=Tryz.sizeOf4
 v4:=Tryz.zeroValue4
 t5:=Tryz.underlying5
 a5:=Tryz.isAgg5
 z5:=Tryz.sizeOf5
 v5:=Tryz.zeroValue5
 t9:=Tryz.underlying9
 a9:=Tryz.isAgg9
 z9:=Tryz.sizeOf9
 v9:=Tryz.zeroValue9
 t46:=Tryz.underlying124
 a46:=Tryz.isAgg124
 z46:=Tryz.sizeOf124
 v46:=Tryz.zeroValue124
 t53:=Tryz.underlying163
 a53:=Tryz.isAgg163
 z53:=Tryz.sizeOf163
 v53:=Tryz.zeroValue163 }
theorem Tryz.bits_Len64 (x : Int) (w : World) (h0 : 0 ≤ x) (h1 : x ≤ 18446744073709551615) :
  Calls Tryz.prog 127 #[.int .u64 x] w fun e w' => e = .returned (.int .i64 (Lib.bitLen x.toNat))∧w' = w:=Any.bits_Len64 Tryz.lays129 x w h0 h1
def Tryz.laysGg6_ren : Go.Shelf.Ren:=⟨fun | 6 => 36 | 10 => 75 | 11 => 76 | 12 => 77 | 13 => 78 | 14 => 79 | 24 => 126 | 25 => 127 | 26 => 128 | 27 => 129 | 28 => 130 | 29 => 131 | 30 => 132 | 31 => 133 | 32 => 134 | 33 => 135 | 34 => 159 | 35 => 160 | 36 => 161 | 37 => 162 | 38 => 163 | 39 => 168 | n => n,fun | 20 => 20 | 26 => 82 | 35 => 118 | 0 => 0 | 37 => 120 | 3 => 3 | 41 => 124 | 44 => 127 | 49 => 161 | 51 => 163 | 4 => 4 | 54 => 166 | 53 => 165 | 58 => 95 | 5 => 5 | 9 => 9 | 60 => 181 | 64 => 185 | 66 => 189 | 67 => 50 | 17 => 17 | 32 => 115 | 33 => 116 | 82 => 210 | 12 => 12 | 75 => 203 | 76 => 204 | 77 => 205 | 78 => 206 | 79 => 207 | 80 => 208 | n => n,fun | n => n⟩
theorem Tryz.laysGg6 : Go.Proofs.LaysGg.n6 Tryz.prog Tryz.laysGg6_ren:={
 mixed:=by kernel_rfl
 f6:=Tryz.func36.trans (congrArg some (by kernel_rfl))
 f10:=Tryz.func75.trans (congrArg some (by kernel_rfl))
 f11:=Tryz.func76.trans (congrArg some (by kernel_rfl))
 f12:=Tryz.func77.trans (congrArg some (by kernel_rfl))
 f13:=Tryz.func78.trans (congrArg some (by kernel_rfl))
 f14:=Tryz.func79.trans (congrArg some (by kernel_rfl))
 f24:=Tryz.func126.trans (congrArg some (by kernel_rfl))
 f25:=Tryz.func127.trans (congrArg some (by kernel_rfl))
 f26:=Tryz.func128.trans (congrArg some (by kernel_rfl))
 f27:=Tryz.func129.trans (congrArg some (by kernel_rfl))
 f28:=Tryz.func130.trans (congrArg some (by kernel_rfl))
 f29:=Tryz.func131.trans (congrArg some (by kernel_rfl))
 f30:=Tryz.func132.trans (congrArg some (by kernel_rfl))
 f31:=Tryz.func133.trans (congrArg some (by kernel_rfl))
 f32:=Tryz.func134.trans (congrArg some (by kernel_rfl))
 f33:=Tryz.func135.trans (congrArg some (by kernel_rfl))
 f34:=Tryz.func159.trans (congrArg some (by kernel_rfl))
 f35:=Tryz.func160.trans (congrArg some (by kernel_rfl))
 f36:=Tryz.func161.trans (congrArg some (by kernel_rfl))
 f37:=Tryz.func162.trans (congrArg some (by kernel_rfl))
 f38:=Tryz.func163.trans (congrArg some (by kernel_rfl))
 f39:=Tryz.func168.trans (congrArg some (by kernel_rfl))
 t0:=Tryz.underlying0
 a0:=Tryz.isAgg0
 z0:=Tryz.sizeOf0
 v0:=Tryz.zeroValue0
 i0:=by kernel_rfl
 t3:=Tryz.underlying3
 a3:=Tryz.isAgg3
 z3:=Tryz.sizeOf3
 v3:=Tryz.zeroValue3
 i3:=by kernel_rfl
 t4:=Tryz.underlying4
 a4:=Tryz.isAgg4
 z4:=Tryz.sizeOf4
 v4:=Tryz.zeroValue4
 i4:=by kernel_rfl
 t5:=Tryz.underlying5
 a5:=Tryz.isAgg5
 z5:=Tryz.sizeOf5
 v5:=Tryz.zeroValue5
 i5:=by kernel_rfl
 t9:=Tryz.underlying9
 a9:=Tryz.isAgg9
 z9:=Tryz.sizeOf9
 v9:=Tryz.zeroValue9
 i9:=by kernel_rfl
 t12:=Tryz.underlying12
 a12:=Tryz.isAgg12
 z12:=Tryz.sizeOf12
 v12:=Tryz.zeroValue12
 i12:=by kernel_rfl
 t17:=Tryz.underlying17
 a17:=Tryz.isAgg17
 z17:=Tryz.sizeOf17
 v17:=Tryz.zeroValue17
 i17:=by kernel_rfl
 t20:=Tryz.underlying20
 a20:=Tryz.isAgg20
 z20:=Tryz.sizeOf20
 v20:=Tryz.zeroValue20
 i20:=by kernel_rfl
 t26:=Tryz.underlying82
 a26:=Tryz.isAgg82
 z26:=Tryz.sizeOf82
 v26:=Tryz.zeroValue82
 i26:=by kernel_rfl
 t32:=Tryz.underlying115
 a32:=Tryz.isAgg115
 z32:=Tryz.sizeOf115
 v32:=Tryz.zeroValue115
 i32:=by kernel_rfl
 t33:=Tryz.underlying116
 a33:=Tryz.isAgg116
 z33:=Tryz.sizeOf116
 v33:=Tryz.zeroValue116
 i33:=by kernel_rfl
 t35:=Tryz.underlying118
 a35:=Tryz.isAgg118
 z35:=Tryz.sizeOf118
 v35:=Tryz.zeroValue118
 i35:=by kernel_rfl
 t37:=Tryz.underlying120
 a37:=Tryz.isAgg120
 z37:=Tryz.sizeOf120
 v37:=Tryz.zeroValue120
 i37:=by kernel_rfl
 t41:=Tryz.underlying124
 a41:=Tryz.isAgg124
 z41:=Tryz.sizeOf124
 v41:=Tryz.zeroValue124
 i41:=by kernel_rfl
 t44:=Tryz.underlying127
 a44:=Tryz.isAgg127
 z44:=Tryz.sizeOf127
 v44:=Tryz.zeroValue127
 i44:=by kernel_rfl
 t49:=Tryz.underlying161
 a49:=Tryz.isAgg161
 z49:=Tryz.sizeOf161
 v49:=Tryz.zeroValue161
 i49:=by kernel_rfl
 t51:=Tryz.underlying163
 a51:=Tryz.isAgg163
 z51:=Tryz.sizeOf163
 v51:=Tryz.zeroValue163
 i51:=by kernel_rfl
 t53:=Tryz.underlying165
 a53:=Tryz.isAgg165
 z53:=Tryz.sizeOf165
 v53:=Tryz.zeroValue165
 i53:=by kernel_rfl
 t54:=Tryz.underlying166
 a54:=Tryz.isAgg166
 z54:=Tryz.sizeOf166
 v54:=Tryz.zeroValue166
 i54:=by kernel_rfl
 t58:=Tryz.underlying95
 a58:=Tryz.isAgg95
 z58:=Tryz.sizeOf95
 v58:=Tryz.zeroValue95
 i58:=by kernel_rfl
 t60:=Tryz.underlying181
 a60:=Tryz.isAgg181
 z60:=Tryz.sizeOf181
 v60:=Tryz.zeroValue181
 i60:=by kernel_rfl
 t64:=Tryz.underlying185
 a64:=Tryz.isAgg185
 z64:=Tryz.sizeOf185
 v64:=Tryz.zeroValue185
 i64:=by kernel_rfl
 t66:=Tryz.underlying189
 a66:=Tryz.isAgg189
 z66:=Tryz.sizeOf189
 v66:=Tryz.zeroValue189
 i66:=by kernel_rfl
 t67:=Tryz.underlying50
 a67:=Tryz.isAgg50
 z67:=Tryz.sizeOf50
 v67:=Tryz.zeroValue50
 i67:=by kernel_rfl
 t75:=Tryz.underlying203
 a75:=Tryz.isAgg203
 z75:=Tryz.sizeOf203
 v75:=Tryz.zeroValue203
 i75:=by kernel_rfl
 t76:=Tryz.underlying204
 a76:=Tryz.isAgg204
 z76:=Tryz.sizeOf204
 v76:=Tryz.zeroValue204
 i76:=by kernel_rfl
 t77:=Tryz.underlying205
 a77:=Tryz.isAgg205
 z77:=Tryz.sizeOf205
 v77:=Tryz.zeroValue205
 i77:=by kernel_rfl
 t78:=Tryz.underlying206
 a78:=Tryz.isAgg206
 z78:=Tryz.sizeOf206
 v78:=Tryz.zeroValue206
 i78:=by kernel_rfl
 t79:=Tryz.underlying207
 a79:=Tryz.isAgg207
 z79:=Tryz.sizeOf207
 v79:=Tryz.zeroValue207
 i79:=by kernel_rfl
 t80:=Tryz.underlying208
 a80:=Tryz.isAgg208
 z80:=Tryz.sizeOf208
 v80:=Tryz.zeroValue208
 i80:=by kernel_rfl
 t82:=Tryz.underlying210
 a82:=Tryz.isAgg210
 z82:=Tryz.sizeOf210
 v82:=Tryz.zeroValue210
 i82:=by kernel_rfl }
def Tryz.lays264_ren : Go.Shelf.Ren:=⟨fun | 264 => 170 | n => n,fun | 53 => 163 | 46 => 124 | n => n,fun | n => n⟩
theorem Tryz.lays264 : Go.Proofs.Lays.n264 Tryz.prog Tryz.lays264_ren:={
 mixed:=by kernel_rfl
 f264:=Tryz.func170.trans (congrArg some (by kernel_rfl))
 t46:=Tryz.underlying124
 a46:=Tryz.isAgg124
 z46:=Tryz.sizeOf124
 v46:=Tryz.zeroValue124
 t53:=Tryz.underlying163
 a53:=Tryz.isAgg163
 z53:=Tryz.sizeOf163
 v53:=Tryz.zeroValue163 }
open Go.RowKit Go.Lib in
theorem Tryz.bits_Mul64 (x y : Nat) (hx : x < 18446744073709551616) (hy : y < 18446744073709551616) (w : World) :
  Calls Tryz.prog 170 #[.int .u64 x,.int .u64 y] w fun e w' => e = .returned (.tuple #[.int .u64 ((x * y / 18446744073709551616 : Nat) : Int),.int .u64 ((x * y % 18446744073709551616 : Nat) : Int)])∧w' = w:=Any.bits_Mul64 Tryz.lays264 x y hx hy w
end Go.Proofs
