/- Contracts of Go's library (numerals, strings cut at their ends), laid at this program: which function and which type bears which number. Printed by wip/bin/laygen. -/
import Derived.Test.YtenekbfnlbipiaaDoorProg
import Derived.Shelf.Strings.Trim
import Derived.Shelf.Strconv.Itoa3
import Derived.Test.YtenekbfnlbipiaaDoorSuO
import Derived.Lib.AppendIntMem
namespace Go.Proofs.YtenekbfnlbipiaaDoor
open Go.RowKit
set_option linter.unusedVariables false
set_option linter.unusedSimpArgs false
set_option maxHeartbeats 4000000
set_option maxRecDepth 100000
open Go.Shelf
def lays284_ren : Ren :=
{
  f := fun x =>
    match x with
    | 284 => 112
    | 129 => 65
    | 317 => 119
    | 318 => 120
    | n => n,
  t := fun x =>
    match x with
    | 53 => 22
    | 3 => 3
    | 212 => 162
    | 0 => 0
    | 4 => 4
    | 46 => 91
    | 5 => 5
    | 9 => 9
    | n => n,
  g := fun x =>
    match x with
    | 17 => 3
    | n => n }
theorem lays284 : LaysM.n284 Tryd.prog lays284_ren :=
{ mixed := Eq.refl true, f129 := Eq.trans Tryd.func65 (congrArg some (Eq.refl (Body.n129 lays284_ren))),
  f284 := Eq.trans Tryd.func112 (congrArg some (Eq.refl (Body.n284 lays284_ren))),
  f317 := Eq.trans Tryd.func119 (congrArg some (Eq.refl (Body.n317 lays284_ren))),
  f318 := Eq.trans Tryd.func120 (congrArg some (Eq.refl (Body.n318 lays284_ren))), t0 := Tryd.underlying0,
  a0 := Tryd.isAgg0, z0 := Tryd.sizeOf0, v0 := Tryd.zeroValue0, t3 := Tryd.underlying3, a3 := Tryd.isAgg3,
  z3 := Tryd.sizeOf3, v3 := Tryd.zeroValue3, t4 := Tryd.underlying4, a4 := Tryd.isAgg4, z4 := Tryd.sizeOf4,
  v4 := Tryd.zeroValue4, t5 := Tryd.underlying5, a5 := Tryd.isAgg5, z5 := Tryd.sizeOf5, v5 := Tryd.zeroValue5,
  t9 := Tryd.underlying9, a9 := Tryd.isAgg9, z9 := Tryd.sizeOf9, v9 := Tryd.zeroValue9, t46 := Tryd.underlying91,
  a46 := Tryd.isAgg91, z46 := Tryd.sizeOf91, v46 := Tryd.zeroValue91, t53 := Tryd.underlying22, a53 := Tryd.isAgg22,
  z53 := Tryd.sizeOf22, v53 := Tryd.zeroValue22, t212 := Tryd.underlying162, a212 := Tryd.isAgg162,
  z212 := Tryd.sizeOf162, v212 := Tryd.zeroValue162, g17 := by kernel_rfl,
  i0 := Eq.refl (some (some (Value.tuple #[]), 1, 0)), i3 := Eq.refl (some (some (Value.int IntKind.i64 0), 1, 8)),
  i4 := Eq.refl (some (some (Value.bool false), 1, 1)), i5 := Eq.refl (some (some (Value.int IntKind.u8 0), 1, 1)),
  i9 := Eq.refl (some (some (Value.string { data := #[] }), 1, 16)),
  i46 := Eq.refl (some (some (Value.int IntKind.u64 0), 1, 8)),
  i53 := Eq.refl (some (some (Value.int IntKind.u64 0), 1, 8)),
  i212 :=
    Eq.refl
      (some
        (some
            (Value.agg
              #[Value.int IntKind.u64 0, Value.int IntKind.u64 0, Value.int IntKind.u64 0, Value.int IntKind.u64 0,
                Value.int IntKind.u64 0, Value.int IntKind.u64 0, Value.int IntKind.u64 0, Value.int IntKind.u64 0,
                Value.int IntKind.u64 0, Value.int IntKind.u64 0, Value.int IntKind.u64 0, Value.int IntKind.u64 0,
                Value.int IntKind.u64 0, Value.int IntKind.u64 0, Value.int IntKind.u64 0, Value.int IntKind.u64 0,
                Value.int IntKind.u64 0, Value.int IntKind.u64 0, Value.int IntKind.u64 0, Value.int IntKind.u64 0]),
          20, 160)),
  m17 := by kernel_rfl }
def lays285_ren : Ren :=
{
  f := fun x =>
    match x with
    | 285 => 113
    | n => n,
  t := fun x =>
    match x with
    | 37 => 151
    | 53 => 22
    | 3 => 3
    | 4 => 4
    | 51 => 90
    | 9 => 9
    | 5 => 5
    | 0 => 0
    | n => n,
  g := fun x =>
    have n := x;
    n }
theorem lays285 : Lays.n285 Tryd.prog lays285_ren :=
{ mixed := Eq.refl true, f285 := Eq.trans Tryd.func113 (congrArg some (Eq.refl (Body.n285 lays285_ren))),
  t0 := Tryd.underlying0, a0 := Tryd.isAgg0, z0 := Tryd.sizeOf0, v0 := Tryd.zeroValue0, t3 := Tryd.underlying3,
  a3 := Tryd.isAgg3, z3 := Tryd.sizeOf3, v3 := Tryd.zeroValue3, t4 := Tryd.underlying4, a4 := Tryd.isAgg4,
  z4 := Tryd.sizeOf4, v4 := Tryd.zeroValue4, t5 := Tryd.underlying5, a5 := Tryd.isAgg5, z5 := Tryd.sizeOf5,
  v5 := Tryd.zeroValue5, t9 := Tryd.underlying9, a9 := Tryd.isAgg9, z9 := Tryd.sizeOf9, v9 := Tryd.zeroValue9,
  t37 := Tryd.underlying151, a37 := Tryd.isAgg151, z37 := Tryd.sizeOf151, v37 := Tryd.zeroValue151,
  t51 := Tryd.underlying90, a51 := Tryd.isAgg90, z51 := Tryd.sizeOf90, v51 := Tryd.zeroValue90,
  t53 := Tryd.underlying22, a53 := Tryd.isAgg22, z53 := Tryd.sizeOf22, v53 := Tryd.zeroValue22 }
def lays283_ren : Ren :=
{
  f := fun x =>
    match x with
    | 283 => 111
    | n => n,
  t := fun x =>
    match x with
    | 3 => 3
    | 9 => 9
    | 4 => 4
    | n => n,
  g := fun x =>
    have n := x;
    n }
theorem lays283 : Lays.n283 Tryd.prog lays283_ren :=
{ mixed := Eq.refl true, f283 := Eq.trans Tryd.func111 (congrArg some (Eq.refl (Body.n283 lays283_ren))),
  t3 := Tryd.underlying3, a3 := Tryd.isAgg3, z3 := Tryd.sizeOf3, v3 := Tryd.zeroValue3, t4 := Tryd.underlying4,
  a4 := Tryd.isAgg4, z4 := Tryd.sizeOf4, v4 := Tryd.zeroValue4, t9 := Tryd.underlying9, a9 := Tryd.isAgg9,
  z9 := Tryd.sizeOf9, v9 := Tryd.zeroValue9 }
def lays162_ren : Ren :=
{
  f := fun x =>
    match x with
    | 162 => 95
    | 232 => 104
    | 227 => 105
    | 234 => 106
    | 236 => 107
    | 228 => 115
    | 271 => 116
    | 151 => 117
    | 120 => 123
    | 197 => 118
    | 152 => 124
    | 260 => 125
    | 137 => 128
    | 119 => 129
    | 224 => 130
    | 225 => 131
    | 217 => 132
    | 266 => 133
    | n => n,
  t := fun x =>
    match x with
    | 9 => 9
    | 4 => 4
    | 3 => 3
    | 5 => 5
    | 117 => 144
    | 116 => 143
    | 0 => 0
    | 124 => 147
    | 21 => 21
    | 105 => 157
    | 46 => 91
    | 119 => 169
    | 139 => 172
    | 138 => 171
    | n => n,
  g := fun x =>
    match x with
    | 3 => 4
    | 4 => 5
    | n => n }
theorem lays162 : Lays.n162 Tryd.prog lays162_ren :=
{ mixed := Eq.refl true, f119 := Eq.trans Tryd.func129 (congrArg some (Eq.refl (Body.n119 lays162_ren))),
  f120 := Eq.trans Tryd.func123 (congrArg some (Eq.refl (Body.n120 lays162_ren))),
  f137 := Eq.trans Tryd.func128 (congrArg some (Eq.refl (Body.n137 lays162_ren))),
  f151 := Eq.trans Tryd.func117 (congrArg some (Eq.refl (Body.n151 lays162_ren))),
  f152 := Eq.trans Tryd.func124 (congrArg some (Eq.refl (Body.n152 lays162_ren))),
  f162 := Eq.trans Tryd.func95 (congrArg some (Eq.refl (Body.n162 lays162_ren))),
  f197 := Eq.trans Tryd.func118 (congrArg some (Eq.refl (Body.n197 lays162_ren))),
  f217 := Eq.trans Tryd.func132 (congrArg some (Eq.refl (Body.n217 lays162_ren))),
  f224 := Eq.trans Tryd.func130 (congrArg some (Eq.refl (Body.n224 lays162_ren))),
  f225 := Eq.trans Tryd.func131 (congrArg some (Eq.refl (Body.n225 lays162_ren))),
  f227 := Eq.trans Tryd.func105 (congrArg some (Eq.refl (Body.n227 lays162_ren))),
  f228 := Eq.trans Tryd.func115 (congrArg some (Eq.refl (Body.n228 lays162_ren))),
  f232 := Eq.trans Tryd.func104 (congrArg some (Eq.refl (Body.n232 lays162_ren))),
  f234 := Eq.trans Tryd.func106 (congrArg some (Eq.refl (Body.n234 lays162_ren))),
  f236 := Eq.trans Tryd.func107 (congrArg some (Eq.refl (Body.n236 lays162_ren))),
  f260 := Eq.trans Tryd.func125 (congrArg some (Eq.refl (Body.n260 lays162_ren))),
  f266 := Eq.trans Tryd.func133 (congrArg some (Eq.refl (Body.n266 lays162_ren))),
  f271 := Eq.trans Tryd.func116 (congrArg some (Eq.refl (Body.n271 lays162_ren))), t0 := Tryd.underlying0,
  a0 := Tryd.isAgg0, z0 := Tryd.sizeOf0, v0 := Tryd.zeroValue0, t3 := Tryd.underlying3, a3 := Tryd.isAgg3,
  z3 := Tryd.sizeOf3, v3 := Tryd.zeroValue3, t4 := Tryd.underlying4, a4 := Tryd.isAgg4, z4 := Tryd.sizeOf4,
  v4 := Tryd.zeroValue4, t5 := Tryd.underlying5, a5 := Tryd.isAgg5, z5 := Tryd.sizeOf5, v5 := Tryd.zeroValue5,
  t9 := Tryd.underlying9, a9 := Tryd.isAgg9, z9 := Tryd.sizeOf9, v9 := Tryd.zeroValue9, t21 := Tryd.underlying21,
  a21 := Tryd.isAgg21, z21 := Tryd.sizeOf21, v21 := Tryd.zeroValue21, t46 := Tryd.underlying91, a46 := Tryd.isAgg91,
  z46 := Tryd.sizeOf91, v46 := Tryd.zeroValue91, t105 := Tryd.underlying157, a105 := Tryd.isAgg157,
  z105 := Tryd.sizeOf157, v105 := Tryd.zeroValue157, t116 := Tryd.underlying143, a116 := Tryd.isAgg143,
  z116 := Tryd.sizeOf143, t117 := Tryd.underlying144, a117 := Tryd.isAgg144, z117 := Tryd.sizeOf144,
  v117 := Tryd.zeroValue144, t119 := Tryd.underlying169, a119 := Tryd.isAgg169, z119 := Tryd.sizeOf169,
  t124 := Tryd.underlying147, a124 := Tryd.isAgg147, z124 := Tryd.sizeOf147, v124 := Tryd.zeroValue147,
  t138 := Tryd.underlying171, a138 := Tryd.isAgg171, z138 := Tryd.sizeOf171, v138 := Tryd.zeroValue171,
  t139 := Tryd.underlying172, a139 := Tryd.isAgg172, z139 := Tryd.sizeOf172, v139 := Tryd.zeroValue172,
  g3 := by kernel_rfl, g4 := by kernel_rfl }
def lays161_ren : Ren :=
{
  f := fun x =>
    match x with
    | 161 => 96
    | 231 => 108
    | 227 => 105
    | 233 => 109
    | 235 => 110
    | 228 => 115
    | 197 => 118
    | 151 => 117
    | 260 => 125
    | 152 => 124
    | 137 => 128
    | 119 => 129
    | 224 => 130
    | 225 => 131
    | 217 => 132
    | 266 => 133
    | n => n,
  t := fun x =>
    match x with
    | 9 => 9
    | 4 => 4
    | 3 => 3
    | 5 => 5
    | 117 => 144
    | 116 => 143
    | 0 => 0
    | 124 => 147
    | 105 => 157
    | 21 => 21
    | 119 => 169
    | 46 => 91
    | 139 => 172
    | 138 => 171
    | n => n,
  g := fun x =>
    match x with
    | 3 => 4
    | 4 => 5
    | n => n }
theorem lays161 : Lays.n161 Tryd.prog lays161_ren :=
{ mixed := Eq.refl true, f119 := Eq.trans Tryd.func129 (congrArg some (Eq.refl (Body.n119 lays161_ren))),
  f137 := Eq.trans Tryd.func128 (congrArg some (Eq.refl (Body.n137 lays161_ren))),
  f151 := Eq.trans Tryd.func117 (congrArg some (Eq.refl (Body.n151 lays161_ren))),
  f152 := Eq.trans Tryd.func124 (congrArg some (Eq.refl (Body.n152 lays161_ren))),
  f161 := Eq.trans Tryd.func96 (congrArg some (Eq.refl (Body.n161 lays161_ren))),
  f197 := Eq.trans Tryd.func118 (congrArg some (Eq.refl (Body.n197 lays161_ren))),
  f217 := Eq.trans Tryd.func132 (congrArg some (Eq.refl (Body.n217 lays161_ren))),
  f224 := Eq.trans Tryd.func130 (congrArg some (Eq.refl (Body.n224 lays161_ren))),
  f225 := Eq.trans Tryd.func131 (congrArg some (Eq.refl (Body.n225 lays161_ren))),
  f227 := Eq.trans Tryd.func105 (congrArg some (Eq.refl (Body.n227 lays161_ren))),
  f228 := Eq.trans Tryd.func115 (congrArg some (Eq.refl (Body.n228 lays161_ren))),
  f231 := Eq.trans Tryd.func108 (congrArg some (Eq.refl (Body.n231 lays161_ren))),
  f233 := Eq.trans Tryd.func109 (congrArg some (Eq.refl (Body.n233 lays161_ren))),
  f235 := Eq.trans Tryd.func110 (congrArg some (Eq.refl (Body.n235 lays161_ren))),
  f260 := Eq.trans Tryd.func125 (congrArg some (Eq.refl (Body.n260 lays161_ren))),
  f266 := Eq.trans Tryd.func133 (congrArg some (Eq.refl (Body.n266 lays161_ren))), t0 := Tryd.underlying0,
  a0 := Tryd.isAgg0, z0 := Tryd.sizeOf0, v0 := Tryd.zeroValue0, t3 := Tryd.underlying3, a3 := Tryd.isAgg3,
  z3 := Tryd.sizeOf3, v3 := Tryd.zeroValue3, t4 := Tryd.underlying4, a4 := Tryd.isAgg4, z4 := Tryd.sizeOf4,
  v4 := Tryd.zeroValue4, t5 := Tryd.underlying5, a5 := Tryd.isAgg5, z5 := Tryd.sizeOf5, v5 := Tryd.zeroValue5,
  t9 := Tryd.underlying9, a9 := Tryd.isAgg9, z9 := Tryd.sizeOf9, v9 := Tryd.zeroValue9, t21 := Tryd.underlying21,
  a21 := Tryd.isAgg21, z21 := Tryd.sizeOf21, v21 := Tryd.zeroValue21, t46 := Tryd.underlying91, a46 := Tryd.isAgg91,
  z46 := Tryd.sizeOf91, v46 := Tryd.zeroValue91, t105 := Tryd.underlying157, a105 := Tryd.isAgg157,
  z105 := Tryd.sizeOf157, v105 := Tryd.zeroValue157, t116 := Tryd.underlying143, a116 := Tryd.isAgg143,
  z116 := Tryd.sizeOf143, t117 := Tryd.underlying144, a117 := Tryd.isAgg144, z117 := Tryd.sizeOf144,
  v117 := Tryd.zeroValue144, t119 := Tryd.underlying169, a119 := Tryd.isAgg169, z119 := Tryd.sizeOf169,
  t124 := Tryd.underlying147, a124 := Tryd.isAgg147, z124 := Tryd.sizeOf147, v124 := Tryd.zeroValue147,
  t138 := Tryd.underlying171, a138 := Tryd.isAgg171, z138 := Tryd.sizeOf171, v138 := Tryd.zeroValue171,
  t139 := Tryd.underlying172, a139 := Tryd.isAgg172, z139 := Tryd.sizeOf172, v139 := Tryd.zeroValue172,
  g3 := by kernel_rfl, g4 := by kernel_rfl }
end Go.Proofs.YtenekbfnlbipiaaDoor
namespace Go.Proofs.YtenekbfnlbipiaaDoor
open Go.RowKit
set_option linter.unusedVariables false
set_option linter.unusedSimpArgs false
set_option maxHeartbeats 4000000
set_option maxRecDepth 100000
open Go.Sort

/-- The table that counts digits. -/
def TabU (w : World) : Prop := Lib.TabIs Tryd.prog w "internal/strconv.uint64pow10" .u64 Lib.pow10Tab
theorem below_put {w : World} {o : Obj} {dk : Array UInt8} {k off : Nat} : Below w.heap.size w ((putRow (fun (b : UInt8) => Value.int .u8 (b.toNat : Int)) (w.alloc o) w.heap.size off dk).drewN k) := by
  obtain ⟨os, e⟩ := Lib.fin_at w o dk k off
  rw [e]
  have h1 : ∀ (W : World) (os : Array Obj), Below W.heap.size W (grow W os) := fun W os => ⟨rfl, rfl, rfl, by simp [grow], fun k hk => heap_grow_old W os hk⟩
  exact (bdn (Below.refl _ w) k).trans (h1 (w.drewN k) os)
theorem fmt_inner (u : Nat) (hu : u < 18446744073709551616) (w : World) (hU : TabU w) :
    Calls Tryd.prog 98 #[.int .u64 (u : Int), .int .i64 10] w (Says w (.string ⟨(Lib.decDigits u).toArray⟩)) := by
  by_cases h1 : u < 100
  · have hg : decide ((u : Int) < 100) = true := by simp; omega
    have hS := fun W => Any.internal_strconv_small lays283 u h1 W
    go_enter Tryd.func98, Tryd.ntmps98
    go_wp2_with fail
    refine (hS _).mono ?_
    rintro e w1 ⟨rfl, rfl⟩
    go_wp2
    go_ret
    exact ⟨rfl, Below.refl _ _⟩
  · have hg : decide ((u : Int) < 100) = false := by simp; omega
    have hnd20 : Lib.nDigits u ≤ 20 := by have := Lib.numDigits_eq u (by omega) hu; split at this <;> omega
    have hN := fun W hT => Any.internal_strconv_numDigits lays284 u (by omega) hu W hT
    have hal : Tryd.prog.arrayLen 149 = 24 := by kernel_rfl
    have hsl : ∀ W, (Instr.sliceAt 149 (.pointer (some ⟨w.heap.size, 0, none⟩)) none (some (.int .i64 (Lib.nDigits u : Int))) none).run Tryd.prog W = .ok (.slice (some ⟨w.heap.size, 0, none⟩) (Lib.nDigits u) 24) W := fun W => by
      rw [run_sliceAt_array_h W 149 ⟨w.heap.size, 0, none⟩ Tryd.underlying149 .i64 (Lib.nDigits u : Int) (by omega) (by rw [hal]; omega)]
      go_simp
    have hH0 := Lib.holds_zero0 w 149 (Lib.nDigits u) (by omega)
    have hfmt := Any.internal_strconv_formatBase10 lays285 w.heap.size 0 24 u (Array.replicate (Lib.nDigits u) 0) (w.alloc (.cells Lib.zeros24 149)) hH0 (by rw [Array.size_replicate]; exact Lib.lt_pow_nDigits u) hu (by rw [Array.size_replicate]; omega)
    rw [Array.size_replicate] at hfmt
    have HH0 := Lib.hid hH0
    clear hH0 hal
    go_enter Tryd.func98, Tryd.ntmps98
    go_wp2_with fail
    refine (hN _ (Lib.tabIs_alloc hU _)).mono ?_
    rintro e w1 ⟨rfl, rfl⟩
    go_wp2_with fail
    refine hfmt.mono ?_
    rintro e w1 ⟨rfl, k, v', dk, rfl, hF⟩
    have hcv : (convert 151 9 (.slice (some ⟨w.heap.size, 0, none⟩) (Lib.nDigits u) 24)).run Tryd.prog ((putRow (fun (b : UInt8) => Value.int .u8 (b.toNat : Int)) (w.alloc (.cells Lib.zeros24 149)) w.heap.size 0 dk).drewN k) = .ok (.string ⟨(Lib.decDigits u).toArray⟩) ((putRow (fun (b : UInt8) => Value.int .u8 (b.toNat : Int)) (w.alloc (.cells Lib.zeros24 149)) w.heap.size 0 dk).drewN k) := by
      have h := run_convert_bytes_back (P := Tryd.prog) ((putRow (fun (b : UInt8) => Value.int .u8 (b.toNat : Int)) (w.alloc (.cells Lib.zeros24 149)) w.heap.size 0 dk).drewN k) 151 9 5 ⟨w.heap.size, 0, none⟩ 24 (Lib.decDigits u) Tryd.underlying151 Tryd.underlying5 Tryd.underlying9 (fun j hj => by
        rw [Lib.row_is_numeral hF j hj, Lib.add_plain, World.cell?_drewN]
        exact cell?_putRow (fun (b : UInt8) => Value.int .u8 (b.toNat : Int)) _ w.heap.size 0 _ dk HH0.out (by rw [hF.size, Array.size_replicate]) j (by rw [hF.size]; rw [Lib.decDigits_length] at hj; exact hj))
      rw [Lib.decDigits_length] at h
      exact h
    have hbp := below_put (w := w) (o := .cells Lib.zeros24 149) (dk := dk) (k := k) (off := 0)
    generalize (putRow (fun (b : UInt8) => Value.int .u8 (b.toNat : Int)) (w.alloc (.cells Lib.zeros24 149)) w.heap.size 0 dk).drewN k = W1 at *
    go_wp2
    go_ret
    exact ⟨rfl, hbp⟩
theorem fmt_uint (u : Nat) (hu : u < 18446744073709551616) (w : World) (hU : TabU w) :
    Calls Tryd.prog 74 #[.int .u64 (u : Int), .int .i64 10] w (Says w (.string ⟨(Lib.decDigits u).toArray⟩)) := by
  go_enter Tryd.func74, Tryd.ntmps74
  go_wp2_with fail
  refine (fmt_inner u hu _ hU).mono ?_
  rintro e w1 ⟨rfl, hb1⟩
  go_wp2
  go_ret
  exact ⟨rfl, hb1⟩
end Go.Proofs.YtenekbfnlbipiaaDoor
