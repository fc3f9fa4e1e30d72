/- The types of this translation, as the abstract logic wants them: printed by a program out of the dump, checked against the loaded program. -/
import Derived.Test.YtjeabpbpoomlmaaAlx
import Derived.Test.YtjeabpbpoomlmaaProg
import Derived.KernelRfl
namespace Go.Pc
open Go Go.Proofs

def T : TypeId → Ty
  | 2 => { kd := .intk .i64, size := 1, bytes := 8, zero := [.int .i64 (0)] }
  | 3 => { kd := .intk .i64, size := 1, bytes := 8, zero := [.int .i64 (0)] }
  | 4 => { kd := .bool, size := 1, bytes := 1, zero := [.bool false] }
  | 5 => { kd := .intk .u8, size := 1, bytes := 1, zero := [.int .u8 (0)] }
  | 9 => { kd := .str, size := 1, bytes := 16, zero := [.string ByteArray.empty] }
  | 12 => { kd := .intk .u64, size := 1, bytes := 8, zero := [.int .u64 (0)] }
  | 17 => { kd := .flat, size := 1, bytes := 8, zero := [.pointer none] }
  | 21 => { kd := .intk .i32, size := 1, bytes := 4, zero := [.int .i32 (0)] }
  | 22 => { kd := .slice 144, size := 1, bytes := 24, zero := [.slice none 0 0] }
  | 23 => { kd := .struct [(0, 3), (1, 3), (2, 22)], size := 3, bytes := 40, zero := [.int .i64 (0), .int .i64 (0), .slice none 0 0] }
  | 24 => { kd := .struct [(0, 3), (1, 3), (2, 22)], size := 3, bytes := 40, zero := [.int .i64 (0), .int .i64 (0), .slice none 0 0] }
  | 25 => { kd := .slice 27, size := 1, bytes := 24, zero := [.slice none 0 0] }
  | 26 => { kd := .struct [(0, 3), (1, 3), (2, 3), (3, 4), (4, 25)], size := 5, bytes := 56, zero := [.int .i64 (0), .int .i64 (0), .int .i64 (0), .bool false, .slice none 0 0] }
  | 27 => { kd := .struct [(0, 3), (1, 3), (2, 3), (3, 4), (4, 25)], size := 5, bytes := 56, zero := [.int .i64 (0), .int .i64 (0), .int .i64 (0), .bool false, .slice none 0 0] }
  | 28 => { kd := .slice 3, size := 1, bytes := 24, zero := [.slice none 0 0] }
  | 32 => { kd := .slice 106, size := 1, bytes := 24, zero := [.slice none 0 0] }
  | 33 => { kd := .struct [(0, 3), (1, 3), (2, 32)], size := 3, bytes := 40, zero := [.int .i64 (0), .int .i64 (0), .slice none 0 0] }
  | 34 => { kd := .struct [(0, 3), (1, 3), (2, 32)], size := 3, bytes := 40, zero := [.int .i64 (0), .int .i64 (0), .slice none 0 0] }
  | 36 => { kd := .slice 38, size := 1, bytes := 24, zero := [.slice none 0 0] }
  | 37 => { kd := .struct [(0, 3), (1, 3), (2, 3), (3, 4), (4, 36)], size := 5, bytes := 56, zero := [.int .i64 (0), .int .i64 (0), .int .i64 (0), .bool false, .slice none 0 0] }
  | 38 => { kd := .struct [(0, 3), (1, 3), (2, 3), (3, 4), (4, 36)], size := 5, bytes := 56, zero := [.int .i64 (0), .int .i64 (0), .int .i64 (0), .bool false, .slice none 0 0] }
  | 50 => { kd := .slice 84, size := 1, bytes := 24, zero := [.slice none 0 0] }
  | 54 => { kd := .slice 101, size := 1, bytes := 24, zero := [.slice none 0 0] }
  | 61 => { kd := .slice 5, size := 1, bytes := 24, zero := [.slice none 0 0] }
  | 67 => { kd := .struct [(0, 3), (1, 3), (2, 3), (3, 50)], size := 4, bytes := 48, zero := [.int .i64 (0), .int .i64 (0), .int .i64 (0), .slice none 0 0] }
  | 68 => { kd := .struct [(0, 3), (1, 3), (2, 3), (3, 50)], size := 4, bytes := 48, zero := [.int .i64 (0), .int .i64 (0), .int .i64 (0), .slice none 0 0] }
  | 83 => { kd := .struct [(0, 3), (1, 3), (2, 3), (3, 3)], size := 4, bytes := 32, zero := [.int .i64 (0), .int .i64 (0), .int .i64 (0), .int .i64 (0)] }
  | 84 => { kd := .struct [(0, 3), (1, 3), (2, 3), (3, 3)], size := 4, bytes := 32, zero := [.int .i64 (0), .int .i64 (0), .int .i64 (0), .int .i64 (0)], eqk := [.int, .int, .int, .int] }
  | 96 => { kd := .slice 99, size := 1, bytes := 24, zero := [.slice none 0 0] }
  | 98 => { kd := .struct [(0, 38), (5, 84)], size := 9, bytes := 88, zero := [.int .i64 (0), .int .i64 (0), .int .i64 (0), .bool false, .slice none 0 0, .int .i64 (0), .int .i64 (0), .int .i64 (0), .int .i64 (0)] }
  | 99 => { kd := .struct [(0, 38), (5, 84)], size := 9, bytes := 88, zero := [.int .i64 (0), .int .i64 (0), .int .i64 (0), .bool false, .slice none 0 0, .int .i64 (0), .int .i64 (0), .int .i64 (0), .int .i64 (0)] }
  | 100 => { kd := .struct [(0, 3), (1, 4), (2, 84)], size := 6, bytes := 48, zero := [.int .i64 (0), .bool false, .int .i64 (0), .int .i64 (0), .int .i64 (0), .int .i64 (0)] }
  | 101 => { kd := .struct [(0, 3), (1, 4), (2, 84)], size := 6, bytes := 48, zero := [.int .i64 (0), .bool false, .int .i64 (0), .int .i64 (0), .int .i64 (0), .int .i64 (0)], eqk := [.int, .bool, .int, .int, .int, .int] }
  | 105 => { kd := .struct [(0, 3), (1, 3), (2, 4), (3, 3)], size := 4, bytes := 32, zero := [.int .i64 (0), .int .i64 (0), .bool false, .int .i64 (0)] }
  | 106 => { kd := .struct [(0, 3), (1, 3), (2, 4), (3, 3)], size := 4, bytes := 32, zero := [.int .i64 (0), .int .i64 (0), .bool false, .int .i64 (0)], eqk := [.int, .int, .bool, .int] }
  | 109 => { kd := .flat, size := 1, bytes := 8, zero := [.pointer none] }
  | 113 => { kd := .slice 117, size := 1, bytes := 24, zero := [.slice none 0 0] }
  | 116 => { kd := .struct [(0, 3), (1, 3)], size := 2, bytes := 16, zero := [.int .i64 (0), .int .i64 (0)] }
  | 117 => { kd := .struct [(0, 3), (1, 3)], size := 2, bytes := 16, zero := [.int .i64 (0), .int .i64 (0)], eqk := [.int, .int] }
  | 144 => { kd := .struct [(0, 3), (1, 3), (2, 4), (3, 3)], size := 4, bytes := 32, zero := [.int .i64 (0), .int .i64 (0), .bool false, .int .i64 (0)], eqk := [.int, .int, .bool, .int] }
  | 148 => { kd := .struct [(0, 61), (1, 3)], size := 2, bytes := 32, zero := [.slice none 0 0, .int .i64 (0)] }
  | 149 => { kd := .struct [(0, 61), (1, 3)], size := 2, bytes := 32, zero := [.slice none 0 0, .int .i64 (0)] }
  | 161 => { kd := .array 255 4, size := 255, bytes := 255, zero := List.replicate 255 (.bool false) }
  | 165 => { kd := .flat, size := 1, bytes := 8, zero := [.pointer none] }
  | 175 => { kd := .intk .u32, size := 1, bytes := 4, zero := [.int .u32 (0)] }
  | 179 => { kd := .flat, size := 1, bytes := 8, zero := [.pointer none] }
  | _ => {}

theorem T_ok : (List.range 185).all (fun t => tyB Try.prog t (T t)) = true := by kernel_rfl

theorem T_2 : T 2 = { kd := .intk .i64, size := 1, bytes := 8, zero := [.int .i64 (0)] } := nrf rfl
theorem T_3 : T 3 = { kd := .intk .i64, size := 1, bytes := 8, zero := [.int .i64 (0)] } := nrf rfl
theorem T_4 : T 4 = { kd := .bool, size := 1, bytes := 1, zero := [.bool false] } := nrf rfl
theorem T_5 : T 5 = { kd := .intk .u8, size := 1, bytes := 1, zero := [.int .u8 (0)] } := nrf rfl
theorem T_9 : T 9 = { kd := .str, size := 1, bytes := 16, zero := [.string ByteArray.empty] } := nrf rfl
theorem T_12 : T 12 = { kd := .intk .u64, size := 1, bytes := 8, zero := [.int .u64 (0)] } := nrf rfl
theorem T_17 : T 17 = { kd := .flat, size := 1, bytes := 8, zero := [.pointer none] } := nrf rfl
theorem T_21 : T 21 = { kd := .intk .i32, size := 1, bytes := 4, zero := [.int .i32 (0)] } := nrf rfl
theorem T_22 : T 22 = { kd := .slice 144, size := 1, bytes := 24, zero := [.slice none 0 0] } := nrf rfl
theorem T_23 : T 23 = { kd := .struct [(0, 3), (1, 3), (2, 22)], size := 3, bytes := 40, zero := [.int .i64 (0), .int .i64 (0), .slice none 0 0] } := nrf rfl
theorem T_24 : T 24 = { kd := .struct [(0, 3), (1, 3), (2, 22)], size := 3, bytes := 40, zero := [.int .i64 (0), .int .i64 (0), .slice none 0 0] } := nrf rfl
theorem T_25 : T 25 = { kd := .slice 27, size := 1, bytes := 24, zero := [.slice none 0 0] } := nrf rfl
theorem T_26 : T 26 = { kd := .struct [(0, 3), (1, 3), (2, 3), (3, 4), (4, 25)], size := 5, bytes := 56, zero := [.int .i64 (0), .int .i64 (0), .int .i64 (0), .bool false, .slice none 0 0] } := nrf rfl
theorem T_27 : T 27 = { kd := .struct [(0, 3), (1, 3), (2, 3), (3, 4), (4, 25)], size := 5, bytes := 56, zero := [.int .i64 (0), .int .i64 (0), .int .i64 (0), .bool false, .slice none 0 0] } := nrf rfl
theorem T_28 : T 28 = { kd := .slice 3, size := 1, bytes := 24, zero := [.slice none 0 0] } := nrf rfl
theorem T_32 : T 32 = { kd := .slice 106, size := 1, bytes := 24, zero := [.slice none 0 0] } := nrf rfl
theorem T_33 : T 33 = { kd := .struct [(0, 3), (1, 3), (2, 32)], size := 3, bytes := 40, zero := [.int .i64 (0), .int .i64 (0), .slice none 0 0] } := nrf rfl
theorem T_34 : T 34 = { kd := .struct [(0, 3), (1, 3), (2, 32)], size := 3, bytes := 40, zero := [.int .i64 (0), .int .i64 (0), .slice none 0 0] } := nrf rfl
theorem T_36 : T 36 = { kd := .slice 38, size := 1, bytes := 24, zero := [.slice none 0 0] } := nrf rfl
theorem T_37 : T 37 = { kd := .struct [(0, 3), (1, 3), (2, 3), (3, 4), (4, 36)], size := 5, bytes := 56, zero := [.int .i64 (0), .int .i64 (0), .int .i64 (0), .bool false, .slice none 0 0] } := nrf rfl
theorem T_38 : T 38 = { kd := .struct [(0, 3), (1, 3), (2, 3), (3, 4), (4, 36)], size := 5, bytes := 56, zero := [.int .i64 (0), .int .i64 (0), .int .i64 (0), .bool false, .slice none 0 0] } := nrf rfl
theorem T_50 : T 50 = { kd := .slice 84, size := 1, bytes := 24, zero := [.slice none 0 0] } := nrf rfl
theorem T_54 : T 54 = { kd := .slice 101, size := 1, bytes := 24, zero := [.slice none 0 0] } := nrf rfl
theorem T_61 : T 61 = { kd := .slice 5, size := 1, bytes := 24, zero := [.slice none 0 0] } := nrf rfl
theorem T_67 : T 67 = { kd := .struct [(0, 3), (1, 3), (2, 3), (3, 50)], size := 4, bytes := 48, zero := [.int .i64 (0), .int .i64 (0), .int .i64 (0), .slice none 0 0] } := nrf rfl
theorem T_68 : T 68 = { kd := .struct [(0, 3), (1, 3), (2, 3), (3, 50)], size := 4, bytes := 48, zero := [.int .i64 (0), .int .i64 (0), .int .i64 (0), .slice none 0 0] } := nrf rfl
theorem T_83 : T 83 = { kd := .struct [(0, 3), (1, 3), (2, 3), (3, 3)], size := 4, bytes := 32, zero := [.int .i64 (0), .int .i64 (0), .int .i64 (0), .int .i64 (0)] } := nrf rfl
theorem T_84 : T 84 = { kd := .struct [(0, 3), (1, 3), (2, 3), (3, 3)], size := 4, bytes := 32, zero := [.int .i64 (0), .int .i64 (0), .int .i64 (0), .int .i64 (0)], eqk := [.int, .int, .int, .int] } := nrf rfl
theorem T_96 : T 96 = { kd := .slice 99, size := 1, bytes := 24, zero := [.slice none 0 0] } := nrf rfl
theorem T_98 : T 98 = { kd := .struct [(0, 38), (5, 84)], size := 9, bytes := 88, zero := [.int .i64 (0), .int .i64 (0), .int .i64 (0), .bool false, .slice none 0 0, .int .i64 (0), .int .i64 (0), .int .i64 (0), .int .i64 (0)] } := nrf rfl
theorem T_99 : T 99 = { kd := .struct [(0, 38), (5, 84)], size := 9, bytes := 88, zero := [.int .i64 (0), .int .i64 (0), .int .i64 (0), .bool false, .slice none 0 0, .int .i64 (0), .int .i64 (0), .int .i64 (0), .int .i64 (0)] } := nrf rfl
theorem T_100 : T 100 = { kd := .struct [(0, 3), (1, 4), (2, 84)], size := 6, bytes := 48, zero := [.int .i64 (0), .bool false, .int .i64 (0), .int .i64 (0), .int .i64 (0), .int .i64 (0)] } := nrf rfl
theorem T_101 : T 101 = { kd := .struct [(0, 3), (1, 4), (2, 84)], size := 6, bytes := 48, zero := [.int .i64 (0), .bool false, .int .i64 (0), .int .i64 (0), .int .i64 (0), .int .i64 (0)], eqk := [.int, .bool, .int, .int, .int, .int] } := nrf rfl
theorem T_105 : T 105 = { kd := .struct [(0, 3), (1, 3), (2, 4), (3, 3)], size := 4, bytes := 32, zero := [.int .i64 (0), .int .i64 (0), .bool false, .int .i64 (0)] } := nrf rfl
theorem T_106 : T 106 = { kd := .struct [(0, 3), (1, 3), (2, 4), (3, 3)], size := 4, bytes := 32, zero := [.int .i64 (0), .int .i64 (0), .bool false, .int .i64 (0)], eqk := [.int, .int, .bool, .int] } := nrf rfl
theorem T_109 : T 109 = { kd := .flat, size := 1, bytes := 8, zero := [.pointer none] } := nrf rfl
theorem T_113 : T 113 = { kd := .slice 117, size := 1, bytes := 24, zero := [.slice none 0 0] } := nrf rfl
theorem T_116 : T 116 = { kd := .struct [(0, 3), (1, 3)], size := 2, bytes := 16, zero := [.int .i64 (0), .int .i64 (0)] } := nrf rfl
theorem T_117 : T 117 = { kd := .struct [(0, 3), (1, 3)], size := 2, bytes := 16, zero := [.int .i64 (0), .int .i64 (0)], eqk := [.int, .int] } := nrf rfl
theorem T_144 : T 144 = { kd := .struct [(0, 3), (1, 3), (2, 4), (3, 3)], size := 4, bytes := 32, zero := [.int .i64 (0), .int .i64 (0), .bool false, .int .i64 (0)], eqk := [.int, .int, .bool, .int] } := nrf rfl
theorem T_148 : T 148 = { kd := .struct [(0, 61), (1, 3)], size := 2, bytes := 32, zero := [.slice none 0 0, .int .i64 (0)] } := nrf rfl
theorem T_149 : T 149 = { kd := .struct [(0, 61), (1, 3)], size := 2, bytes := 32, zero := [.slice none 0 0, .int .i64 (0)] } := nrf rfl
theorem T_161 : T 161 = { kd := .array 255 4, size := 255, bytes := 255, zero := List.replicate 255 (.bool false) } := nrf rfl
theorem T_165 : T 165 = { kd := .flat, size := 1, bytes := 8, zero := [.pointer none] } := nrf rfl
theorem T_175 : T 175 = { kd := .intk .u32, size := 1, bytes := 4, zero := [.int .u32 (0)] } := nrf rfl
theorem T_179 : T 179 = { kd := .flat, size := 1, bytes := 8, zero := [.pointer none] } := nrf rfl
theorem T_stood84 : Try.prog.stoodInHeld 84 = false := by kernel_rfl
theorem T_stood101 : Try.prog.stoodInHeld 101 = false := by kernel_rfl
theorem T_stood106 : Try.prog.stoodInHeld 106 = false := by kernel_rfl
theorem T_stood117 : Try.prog.stoodInHeld 117 = false := by kernel_rfl
theorem T_stood144 : Try.prog.stoodInHeld 144 = false := by kernel_rfl
theorem T_guard84 : Try.prog.eqGuardType Try.prog.depth 84 = false := by kernel_rfl
theorem T_eq84 : EqOk Try.prog 84 (T 84) := by
  intro _
  refine ⟨T_guard84, fun xs ys hx hy w => ?_⟩
  obtain ⟨a0, al0, rfl, hx0⟩ := km_int hx
  obtain ⟨a1, al1, rfl, hx1⟩ := km_int hx0
  obtain ⟨a2, al2, rfl, hx2⟩ := km_int hx1
  obtain ⟨a3, al3, rfl, hx3⟩ := km_int hx2
  obtain rfl := km_nil hx3
  obtain ⟨b0, bl0, rfl, hy0⟩ := km_int hy
  obtain ⟨b1, bl1, rfl, hy1⟩ := km_int hy0
  obtain ⟨b2, bl2, rfl, hy2⟩ := km_int hy1
  obtain ⟨b3, bl3, rfl, hy3⟩ := km_int hy2
  obtain rfl := km_nil hy3
  clear hx hy hx0 hy0 hx1 hy1 hx2 hy2 hx3 hy3
  have hs0 := T_stood84
  go_simp
  simp only [eqV]
  (repeat' split) <;> simp_all
theorem T_guard101 : Try.prog.eqGuardType Try.prog.depth 101 = false := by kernel_rfl
theorem T_eq101 : EqOk Try.prog 101 (T 101) := by
  intro _
  refine ⟨T_guard101, fun xs ys hx hy w => ?_⟩
  obtain ⟨a0, al0, rfl, hx0⟩ := km_int hx
  obtain ⟨a1, al1, rfl, hx1⟩ := km_bool hx0
  obtain ⟨a2, al2, rfl, hx2⟩ := km_int hx1
  obtain ⟨a3, al3, rfl, hx3⟩ := km_int hx2
  obtain ⟨a4, al4, rfl, hx4⟩ := km_int hx3
  obtain ⟨a5, al5, rfl, hx5⟩ := km_int hx4
  obtain rfl := km_nil hx5
  obtain ⟨b0, bl0, rfl, hy0⟩ := km_int hy
  obtain ⟨b1, bl1, rfl, hy1⟩ := km_bool hy0
  obtain ⟨b2, bl2, rfl, hy2⟩ := km_int hy1
  obtain ⟨b3, bl3, rfl, hy3⟩ := km_int hy2
  obtain ⟨b4, bl4, rfl, hy4⟩ := km_int hy3
  obtain ⟨b5, bl5, rfl, hy5⟩ := km_int hy4
  obtain rfl := km_nil hy5
  clear hx hy hx0 hy0 hx1 hy1 hx2 hy2 hx3 hy3 hx4 hy4 hx5 hy5
  have hs0 := T_stood84
  have hs1 := T_stood101
  go_simp
  simp only [eqV]
  (repeat' split) <;> simp_all
theorem T_guard106 : Try.prog.eqGuardType Try.prog.depth 106 = false := by kernel_rfl
theorem T_eq106 : EqOk Try.prog 106 (T 106) := by
  intro _
  refine ⟨T_guard106, fun xs ys hx hy w => ?_⟩
  obtain ⟨a0, al0, rfl, hx0⟩ := km_int hx
  obtain ⟨a1, al1, rfl, hx1⟩ := km_int hx0
  obtain ⟨a2, al2, rfl, hx2⟩ := km_bool hx1
  obtain ⟨a3, al3, rfl, hx3⟩ := km_int hx2
  obtain rfl := km_nil hx3
  obtain ⟨b0, bl0, rfl, hy0⟩ := km_int hy
  obtain ⟨b1, bl1, rfl, hy1⟩ := km_int hy0
  obtain ⟨b2, bl2, rfl, hy2⟩ := km_bool hy1
  obtain ⟨b3, bl3, rfl, hy3⟩ := km_int hy2
  obtain rfl := km_nil hy3
  clear hx hy hx0 hy0 hx1 hy1 hx2 hy2 hx3 hy3
  have hs0 := T_stood106
  go_simp
  simp only [eqV]
  (repeat' split) <;> simp_all
theorem T_guard117 : Try.prog.eqGuardType Try.prog.depth 117 = false := by kernel_rfl
theorem T_eq117 : EqOk Try.prog 117 (T 117) := by
  intro _
  refine ⟨T_guard117, fun xs ys hx hy w => ?_⟩
  obtain ⟨a0, al0, rfl, hx0⟩ := km_int hx
  obtain ⟨a1, al1, rfl, hx1⟩ := km_int hx0
  obtain rfl := km_nil hx1
  obtain ⟨b0, bl0, rfl, hy0⟩ := km_int hy
  obtain ⟨b1, bl1, rfl, hy1⟩ := km_int hy0
  obtain rfl := km_nil hy1
  clear hx hy hx0 hy0 hx1 hy1
  have hs0 := T_stood117
  go_simp
  simp only [eqV]
  (repeat' split) <;> simp_all
theorem T_guard144 : Try.prog.eqGuardType Try.prog.depth 144 = false := by kernel_rfl
theorem T_eq144 : EqOk Try.prog 144 (T 144) := by
  intro _
  refine ⟨T_guard144, fun xs ys hx hy w => ?_⟩
  obtain ⟨a0, al0, rfl, hx0⟩ := km_int hx
  obtain ⟨a1, al1, rfl, hx1⟩ := km_int hx0
  obtain ⟨a2, al2, rfl, hx2⟩ := km_bool hx1
  obtain ⟨a3, al3, rfl, hx3⟩ := km_int hx2
  obtain rfl := km_nil hx3
  obtain ⟨b0, bl0, rfl, hy0⟩ := km_int hy
  obtain ⟨b1, bl1, rfl, hy1⟩ := km_int hy0
  obtain ⟨b2, bl2, rfl, hy2⟩ := km_bool hy1
  obtain ⟨b3, bl3, rfl, hy3⟩ := km_int hy2
  obtain rfl := km_nil hy3
  clear hx hy hx0 hy0 hx1 hy1 hx2 hy2 hx3 hy3
  have hs0 := T_stood144
  go_simp
  simp only [eqV]
  (repeat' split) <;> simp_all
theorem T_none : ∀ t, 185 ≤ t → (T t).kd = .none := by
  intro t ht
  unfold T
  split <;> first | (exact absurd ht (by decide)) | rfl
theorem T_eqs : ∀ t, EqOk Try.prog t (T t) := by
  intro t
  by_cases h : (T t).eqk = []
  · exact eqOk_nil h
  · have : t = 84 ∨ t = 101 ∨ t = 106 ∨ t = 117 ∨ t = 144 := by
      unfold T at h
      split at h <;> first | (exact absurd rfl h) | simp
    rcases this with rfl | rfl | rfl | rfl | rfl
    · exact T_eq84
    · exact T_eq101
    · exact T_eq106
    · exact T_eq117
    · exact T_eq144
theorem T_tt : TTOk Try.prog T := ttok 185 T_ok T_none T_eqs
theorem mixed : Try.prog.follows .mixedOrders = true := by kernel_rfl
end Go.Pc
