/- The types of this translation, as the abstract logic wants them: printed by a program out of the dump, checked against the loaded program. -/
import Derived.Test.YtkcpcmobmalijaaAlx
import Derived.Test.YtkcpcmobmalijaaProg
import Derived.KernelRfl
namespace Go.Pc
open Go Go.Proofs

def T : TypeId → Ty
  | 2 => { kd := .intk .i64, size := 1, bytes := 8, zero := [.int .i64 (0)] }
  | 3 => { kd := .intk .i64, size := 1, bytes := 8, zero := [.int .i64 (0)] }
  | 4 => { kd := .bool, size := 1, bytes := 1, zero := [.bool false] }
  | 5 => { kd := .intk .u8, size := 1, bytes := 1, zero := [.int .u8 (0)] }
  | 9 => { kd := .str, size := 1, bytes := 16, zero := [.string ByteArray.empty] }
  | 12 => { kd := .intk .u64, size := 1, bytes := 8, zero := [.int .u64 (0)] }
  | 17 => { kd := .flat, size := 1, bytes := 8, zero := [.pointer none] }
  | 21 => { kd := .intk .i32, size := 1, bytes := 4, zero := [.int .i32 (0)] }
  | 22 => { kd := .slice 5, size := 1, bytes := 24, zero := [.slice none 0 0] }
  | 23 => { kd := .slice 63, size := 1, bytes := 24, zero := [.slice none 0 0] }
  | 24 => { kd := .struct [(0, 3), (1, 3), (2, 23)], size := 3, bytes := 40, zero := [.int .i64 (0), .int .i64 (0), .slice none 0 0] }
  | 25 => { kd := .struct [(0, 3), (1, 3), (2, 23)], size := 3, bytes := 40, zero := [.int .i64 (0), .int .i64 (0), .slice none 0 0] }
  | 26 => { kd := .slice 3, size := 1, bytes := 24, zero := [.slice none 0 0] }
  | 29 => { kd := .slice 31, size := 1, bytes := 24, zero := [.slice none 0 0] }
  | 30 => { kd := .struct [(0, 3), (1, 3), (2, 3), (3, 4), (4, 29)], size := 5, bytes := 56, zero := [.int .i64 (0), .int .i64 (0), .int .i64 (0), .bool false, .slice none 0 0] }
  | 31 => { kd := .struct [(0, 3), (1, 3), (2, 3), (3, 4), (4, 29)], size := 5, bytes := 56, zero := [.int .i64 (0), .int .i64 (0), .int .i64 (0), .bool false, .slice none 0 0] }
  | 39 => { kd := .slice 149, size := 1, bytes := 24, zero := [.slice none 0 0] }
  | 40 => { kd := .struct [(0, 3), (1, 3), (2, 39)], size := 3, bytes := 40, zero := [.int .i64 (0), .int .i64 (0), .slice none 0 0] }
  | 41 => { kd := .struct [(0, 3), (1, 3), (2, 39)], size := 3, bytes := 40, zero := [.int .i64 (0), .int .i64 (0), .slice none 0 0] }
  | 62 => { kd := .struct [(0, 3), (1, 3), (2, 4), (3, 3)], size := 4, bytes := 32, zero := [.int .i64 (0), .int .i64 (0), .bool false, .int .i64 (0)] }
  | 63 => { kd := .struct [(0, 3), (1, 3), (2, 4), (3, 3)], size := 4, bytes := 32, zero := [.int .i64 (0), .int .i64 (0), .bool false, .int .i64 (0)], eqk := [.int, .int, .bool, .int] }
  | 69 => { kd := .slice 77, size := 1, bytes := 24, zero := [.slice none 0 0] }
  | 76 => { kd := .struct [(0, 3), (1, 3), (2, 3), (3, 3)], size := 4, bytes := 32, zero := [.int .i64 (0), .int .i64 (0), .int .i64 (0), .int .i64 (0)] }
  | 77 => { kd := .struct [(0, 3), (1, 3), (2, 3), (3, 3)], size := 4, bytes := 32, zero := [.int .i64 (0), .int .i64 (0), .int .i64 (0), .int .i64 (0)], eqk := [.int, .int, .int, .int] }
  | 79 => { kd := .array 17 3, size := 17, bytes := 136, zero := List.replicate 17 (.int .i64 (0)) }
  | 80 => { kd := .array 17 79, size := 289, bytes := 2312, zero := List.replicate 289 (.int .i64 (0)) }
  | 81 => { kd := .array 17 79, size := 289, bytes := 2312, zero := List.replicate 289 (.int .i64 (0)) }
  | 84 => { kd := .flat, size := 1, bytes := 8, zero := [.pointer none] }
  | 86 => { kd := .slice 26, size := 1, bytes := 24, zero := [.slice none 0 0] }
  | 90 => { kd := .slice 93, size := 1, bytes := 24, zero := [.slice none 0 0] }
  | 92 => { kd := .struct [(0, 3), (1, 4), (2, 77)], size := 6, bytes := 48, zero := [.int .i64 (0), .bool false, .int .i64 (0), .int .i64 (0), .int .i64 (0), .int .i64 (0)] }
  | 93 => { kd := .struct [(0, 3), (1, 4), (2, 77)], size := 6, bytes := 48, zero := [.int .i64 (0), .bool false, .int .i64 (0), .int .i64 (0), .int .i64 (0), .int .i64 (0)], eqk := [.int, .bool, .int, .int, .int, .int] }
  | 98 => { kd := .flat, size := 1, bytes := 8, zero := [.pointer none] }
  | 102 => { kd := .slice 86, size := 1, bytes := 24, zero := [.slice none 0 0] }
  | 106 => { kd := .flat, size := 1, bytes := 8, zero := [.pointer none] }
  | 109 => { kd := .array 17 4, size := 17, bytes := 17, zero := List.replicate 17 (.bool false) }
  | 110 => { kd := .array 17 109, size := 289, bytes := 289, zero := List.replicate 289 (.bool false) }
  | 124 => { kd := .slice 131, size := 1, bytes := 24, zero := [.slice none 0 0] }
  | 126 => { kd := .slice 170, size := 1, bytes := 24, zero := [.slice none 0 0] }
  | 130 => { kd := .struct [(0, 31), (5, 77)], size := 9, bytes := 88, zero := [.int .i64 (0), .int .i64 (0), .int .i64 (0), .bool false, .slice none 0 0, .int .i64 (0), .int .i64 (0), .int .i64 (0), .int .i64 (0)] }
  | 131 => { kd := .struct [(0, 31), (5, 77)], size := 9, bytes := 88, zero := [.int .i64 (0), .int .i64 (0), .int .i64 (0), .bool false, .slice none 0 0, .int .i64 (0), .int .i64 (0), .int .i64 (0), .int .i64 (0)] }
  | 149 => { kd := .struct [(0, 3), (1, 3), (2, 4), (3, 3)], size := 4, bytes := 32, zero := [.int .i64 (0), .int .i64 (0), .bool false, .int .i64 (0)], eqk := [.int, .int, .bool, .int] }
  | 151 => { kd := .struct [(0, 22), (1, 3)], size := 2, bytes := 32, zero := [.slice none 0 0, .int .i64 (0)] }
  | 152 => { kd := .struct [(0, 22), (1, 3)], size := 2, bytes := 32, zero := [.slice none 0 0, .int .i64 (0)] }
  | 157 => { kd := .array 16 110, size := 4624, bytes := 4624, zero := List.replicate 4624 (.bool false) }
  | 158 => { kd := .array 16 110, size := 4624, bytes := 4624, zero := List.replicate 4624 (.bool false) }
  | 159 => { kd := .slice 162, size := 1, bytes := 24, zero := [.slice none 0 0] }
  | 162 => { kd := .slice 4, size := 1, bytes := 24, zero := [.slice none 0 0] }
  | 167 => { kd := .array 255 4, size := 255, bytes := 255, zero := List.replicate 255 (.bool false) }
  | 169 => { kd := .struct [(0, 3), (1, 3)], size := 2, bytes := 16, zero := [.int .i64 (0), .int .i64 (0)] }
  | 170 => { kd := .struct [(0, 3), (1, 3)], size := 2, bytes := 16, zero := [.int .i64 (0), .int .i64 (0)], eqk := [.int, .int] }
  | 178 => { kd := .flat, size := 1, bytes := 8, zero := [.pointer none] }
  | 184 => { kd := .intk .u64, size := 1, bytes := 8, zero := [.int .u64 (0)] }
  | 192 => { kd := .intk .u32, size := 1, bytes := 4, zero := [.int .u32 (0)] }
  | 196 => { kd := .flat, size := 1, bytes := 8, zero := [.pointer none] }
  | _ => {}

theorem T_ok : (List.range 202).all (fun t => tyB Try.prog t (T t)) = true := by kernel_rfl

theorem T_2 : T 2 = { kd := .intk .i64, size := 1, bytes := 8, zero := [.int .i64 (0)] } := nrf rfl
theorem T_3 : T 3 = { kd := .intk .i64, size := 1, bytes := 8, zero := [.int .i64 (0)] } := nrf rfl
theorem T_4 : T 4 = { kd := .bool, size := 1, bytes := 1, zero := [.bool false] } := nrf rfl
theorem T_5 : T 5 = { kd := .intk .u8, size := 1, bytes := 1, zero := [.int .u8 (0)] } := nrf rfl
theorem T_9 : T 9 = { kd := .str, size := 1, bytes := 16, zero := [.string ByteArray.empty] } := nrf rfl
theorem T_12 : T 12 = { kd := .intk .u64, size := 1, bytes := 8, zero := [.int .u64 (0)] } := nrf rfl
theorem T_17 : T 17 = { kd := .flat, size := 1, bytes := 8, zero := [.pointer none] } := nrf rfl
theorem T_21 : T 21 = { kd := .intk .i32, size := 1, bytes := 4, zero := [.int .i32 (0)] } := nrf rfl
theorem T_22 : T 22 = { kd := .slice 5, size := 1, bytes := 24, zero := [.slice none 0 0] } := nrf rfl
theorem T_23 : T 23 = { kd := .slice 63, size := 1, bytes := 24, zero := [.slice none 0 0] } := nrf rfl
theorem T_24 : T 24 = { kd := .struct [(0, 3), (1, 3), (2, 23)], size := 3, bytes := 40, zero := [.int .i64 (0), .int .i64 (0), .slice none 0 0] } := nrf rfl
theorem T_25 : T 25 = { kd := .struct [(0, 3), (1, 3), (2, 23)], size := 3, bytes := 40, zero := [.int .i64 (0), .int .i64 (0), .slice none 0 0] } := nrf rfl
theorem T_26 : T 26 = { kd := .slice 3, size := 1, bytes := 24, zero := [.slice none 0 0] } := nrf rfl
theorem T_29 : T 29 = { kd := .slice 31, size := 1, bytes := 24, zero := [.slice none 0 0] } := nrf rfl
theorem T_30 : T 30 = { kd := .struct [(0, 3), (1, 3), (2, 3), (3, 4), (4, 29)], size := 5, bytes := 56, zero := [.int .i64 (0), .int .i64 (0), .int .i64 (0), .bool false, .slice none 0 0] } := nrf rfl
theorem T_31 : T 31 = { kd := .struct [(0, 3), (1, 3), (2, 3), (3, 4), (4, 29)], size := 5, bytes := 56, zero := [.int .i64 (0), .int .i64 (0), .int .i64 (0), .bool false, .slice none 0 0] } := nrf rfl
theorem T_39 : T 39 = { kd := .slice 149, size := 1, bytes := 24, zero := [.slice none 0 0] } := nrf rfl
theorem T_40 : T 40 = { kd := .struct [(0, 3), (1, 3), (2, 39)], size := 3, bytes := 40, zero := [.int .i64 (0), .int .i64 (0), .slice none 0 0] } := nrf rfl
theorem T_41 : T 41 = { kd := .struct [(0, 3), (1, 3), (2, 39)], size := 3, bytes := 40, zero := [.int .i64 (0), .int .i64 (0), .slice none 0 0] } := nrf rfl
theorem T_62 : T 62 = { kd := .struct [(0, 3), (1, 3), (2, 4), (3, 3)], size := 4, bytes := 32, zero := [.int .i64 (0), .int .i64 (0), .bool false, .int .i64 (0)] } := nrf rfl
theorem T_63 : T 63 = { kd := .struct [(0, 3), (1, 3), (2, 4), (3, 3)], size := 4, bytes := 32, zero := [.int .i64 (0), .int .i64 (0), .bool false, .int .i64 (0)], eqk := [.int, .int, .bool, .int] } := nrf rfl
theorem T_69 : T 69 = { kd := .slice 77, size := 1, bytes := 24, zero := [.slice none 0 0] } := nrf rfl
theorem T_76 : T 76 = { kd := .struct [(0, 3), (1, 3), (2, 3), (3, 3)], size := 4, bytes := 32, zero := [.int .i64 (0), .int .i64 (0), .int .i64 (0), .int .i64 (0)] } := nrf rfl
theorem T_77 : T 77 = { kd := .struct [(0, 3), (1, 3), (2, 3), (3, 3)], size := 4, bytes := 32, zero := [.int .i64 (0), .int .i64 (0), .int .i64 (0), .int .i64 (0)], eqk := [.int, .int, .int, .int] } := nrf rfl
theorem T_79 : T 79 = { kd := .array 17 3, size := 17, bytes := 136, zero := List.replicate 17 (.int .i64 (0)) } := nrf rfl
theorem T_80 : T 80 = { kd := .array 17 79, size := 289, bytes := 2312, zero := List.replicate 289 (.int .i64 (0)) } := nrf rfl
theorem T_81 : T 81 = { kd := .array 17 79, size := 289, bytes := 2312, zero := List.replicate 289 (.int .i64 (0)) } := nrf rfl
theorem T_84 : T 84 = { kd := .flat, size := 1, bytes := 8, zero := [.pointer none] } := nrf rfl
theorem T_86 : T 86 = { kd := .slice 26, size := 1, bytes := 24, zero := [.slice none 0 0] } := nrf rfl
theorem T_90 : T 90 = { kd := .slice 93, size := 1, bytes := 24, zero := [.slice none 0 0] } := nrf rfl
theorem T_92 : T 92 = { kd := .struct [(0, 3), (1, 4), (2, 77)], size := 6, bytes := 48, zero := [.int .i64 (0), .bool false, .int .i64 (0), .int .i64 (0), .int .i64 (0), .int .i64 (0)] } := nrf rfl
theorem T_93 : T 93 = { kd := .struct [(0, 3), (1, 4), (2, 77)], size := 6, bytes := 48, zero := [.int .i64 (0), .bool false, .int .i64 (0), .int .i64 (0), .int .i64 (0), .int .i64 (0)], eqk := [.int, .bool, .int, .int, .int, .int] } := nrf rfl
theorem T_98 : T 98 = { kd := .flat, size := 1, bytes := 8, zero := [.pointer none] } := nrf rfl
theorem T_102 : T 102 = { kd := .slice 86, size := 1, bytes := 24, zero := [.slice none 0 0] } := nrf rfl
theorem T_106 : T 106 = { kd := .flat, size := 1, bytes := 8, zero := [.pointer none] } := nrf rfl
theorem T_109 : T 109 = { kd := .array 17 4, size := 17, bytes := 17, zero := List.replicate 17 (.bool false) } := nrf rfl
theorem T_110 : T 110 = { kd := .array 17 109, size := 289, bytes := 289, zero := List.replicate 289 (.bool false) } := nrf rfl
theorem T_124 : T 124 = { kd := .slice 131, size := 1, bytes := 24, zero := [.slice none 0 0] } := nrf rfl
theorem T_126 : T 126 = { kd := .slice 170, size := 1, bytes := 24, zero := [.slice none 0 0] } := nrf rfl
theorem T_130 : T 130 = { kd := .struct [(0, 31), (5, 77)], size := 9, bytes := 88, zero := [.int .i64 (0), .int .i64 (0), .int .i64 (0), .bool false, .slice none 0 0, .int .i64 (0), .int .i64 (0), .int .i64 (0), .int .i64 (0)] } := nrf rfl
theorem T_131 : T 131 = { kd := .struct [(0, 31), (5, 77)], size := 9, bytes := 88, zero := [.int .i64 (0), .int .i64 (0), .int .i64 (0), .bool false, .slice none 0 0, .int .i64 (0), .int .i64 (0), .int .i64 (0), .int .i64 (0)] } := nrf rfl
theorem T_149 : T 149 = { kd := .struct [(0, 3), (1, 3), (2, 4), (3, 3)], size := 4, bytes := 32, zero := [.int .i64 (0), .int .i64 (0), .bool false, .int .i64 (0)], eqk := [.int, .int, .bool, .int] } := nrf rfl
theorem T_151 : T 151 = { kd := .struct [(0, 22), (1, 3)], size := 2, bytes := 32, zero := [.slice none 0 0, .int .i64 (0)] } := nrf rfl
theorem T_152 : T 152 = { kd := .struct [(0, 22), (1, 3)], size := 2, bytes := 32, zero := [.slice none 0 0, .int .i64 (0)] } := nrf rfl
theorem T_157 : T 157 = { kd := .array 16 110, size := 4624, bytes := 4624, zero := List.replicate 4624 (.bool false) } := nrf rfl
theorem T_158 : T 158 = { kd := .array 16 110, size := 4624, bytes := 4624, zero := List.replicate 4624 (.bool false) } := nrf rfl
theorem T_159 : T 159 = { kd := .slice 162, size := 1, bytes := 24, zero := [.slice none 0 0] } := nrf rfl
theorem T_162 : T 162 = { kd := .slice 4, size := 1, bytes := 24, zero := [.slice none 0 0] } := nrf rfl
theorem T_167 : T 167 = { kd := .array 255 4, size := 255, bytes := 255, zero := List.replicate 255 (.bool false) } := nrf rfl
theorem T_169 : T 169 = { kd := .struct [(0, 3), (1, 3)], size := 2, bytes := 16, zero := [.int .i64 (0), .int .i64 (0)] } := nrf rfl
theorem T_170 : T 170 = { kd := .struct [(0, 3), (1, 3)], size := 2, bytes := 16, zero := [.int .i64 (0), .int .i64 (0)], eqk := [.int, .int] } := nrf rfl
theorem T_178 : T 178 = { kd := .flat, size := 1, bytes := 8, zero := [.pointer none] } := nrf rfl
theorem T_184 : T 184 = { kd := .intk .u64, size := 1, bytes := 8, zero := [.int .u64 (0)] } := nrf rfl
theorem T_192 : T 192 = { kd := .intk .u32, size := 1, bytes := 4, zero := [.int .u32 (0)] } := nrf rfl
theorem T_196 : T 196 = { kd := .flat, size := 1, bytes := 8, zero := [.pointer none] } := nrf rfl
theorem T_stood63 : Try.prog.stoodInHeld 63 = false := by kernel_rfl
theorem T_stood77 : Try.prog.stoodInHeld 77 = false := by kernel_rfl
theorem T_stood93 : Try.prog.stoodInHeld 93 = false := by kernel_rfl
theorem T_stood149 : Try.prog.stoodInHeld 149 = false := by kernel_rfl
theorem T_stood170 : Try.prog.stoodInHeld 170 = false := by kernel_rfl
theorem T_guard63 : Try.prog.eqGuardType Try.prog.depth 63 = false := by kernel_rfl
theorem T_eq63 : EqOk Try.prog 63 (T 63) := by
  intro _
  refine ⟨T_guard63, fun xs ys hx hy w => ?_⟩
  obtain ⟨a0, al0, rfl, hx0⟩ := km_int hx
  obtain ⟨a1, al1, rfl, hx1⟩ := km_int hx0
  obtain ⟨a2, al2, rfl, hx2⟩ := km_bool hx1
  obtain ⟨a3, al3, rfl, hx3⟩ := km_int hx2
  obtain rfl := km_nil hx3
  obtain ⟨b0, bl0, rfl, hy0⟩ := km_int hy
  obtain ⟨b1, bl1, rfl, hy1⟩ := km_int hy0
  obtain ⟨b2, bl2, rfl, hy2⟩ := km_bool hy1
  obtain ⟨b3, bl3, rfl, hy3⟩ := km_int hy2
  obtain rfl := km_nil hy3
  clear hx hy hx0 hy0 hx1 hy1 hx2 hy2 hx3 hy3
  have hs0 := T_stood63
  go_simp
  simp only [eqV]
  (repeat' split) <;> simp_all
theorem T_guard77 : Try.prog.eqGuardType Try.prog.depth 77 = false := by kernel_rfl
theorem T_eq77 : EqOk Try.prog 77 (T 77) := by
  intro _
  refine ⟨T_guard77, fun xs ys hx hy w => ?_⟩
  obtain ⟨a0, al0, rfl, hx0⟩ := km_int hx
  obtain ⟨a1, al1, rfl, hx1⟩ := km_int hx0
  obtain ⟨a2, al2, rfl, hx2⟩ := km_int hx1
  obtain ⟨a3, al3, rfl, hx3⟩ := km_int hx2
  obtain rfl := km_nil hx3
  obtain ⟨b0, bl0, rfl, hy0⟩ := km_int hy
  obtain ⟨b1, bl1, rfl, hy1⟩ := km_int hy0
  obtain ⟨b2, bl2, rfl, hy2⟩ := km_int hy1
  obtain ⟨b3, bl3, rfl, hy3⟩ := km_int hy2
  obtain rfl := km_nil hy3
  clear hx hy hx0 hy0 hx1 hy1 hx2 hy2 hx3 hy3
  have hs0 := T_stood77
  go_simp
  simp only [eqV]
  (repeat' split) <;> simp_all
theorem T_guard93 : Try.prog.eqGuardType Try.prog.depth 93 = false := by kernel_rfl
theorem T_eq93 : EqOk Try.prog 93 (T 93) := by
  intro _
  refine ⟨T_guard93, fun xs ys hx hy w => ?_⟩
  obtain ⟨a0, al0, rfl, hx0⟩ := km_int hx
  obtain ⟨a1, al1, rfl, hx1⟩ := km_bool hx0
  obtain ⟨a2, al2, rfl, hx2⟩ := km_int hx1
  obtain ⟨a3, al3, rfl, hx3⟩ := km_int hx2
  obtain ⟨a4, al4, rfl, hx4⟩ := km_int hx3
  obtain ⟨a5, al5, rfl, hx5⟩ := km_int hx4
  obtain rfl := km_nil hx5
  obtain ⟨b0, bl0, rfl, hy0⟩ := km_int hy
  obtain ⟨b1, bl1, rfl, hy1⟩ := km_bool hy0
  obtain ⟨b2, bl2, rfl, hy2⟩ := km_int hy1
  obtain ⟨b3, bl3, rfl, hy3⟩ := km_int hy2
  obtain ⟨b4, bl4, rfl, hy4⟩ := km_int hy3
  obtain ⟨b5, bl5, rfl, hy5⟩ := km_int hy4
  obtain rfl := km_nil hy5
  clear hx hy hx0 hy0 hx1 hy1 hx2 hy2 hx3 hy3 hx4 hy4 hx5 hy5
  have hs0 := T_stood77
  have hs1 := T_stood93
  go_simp
  simp only [eqV]
  (repeat' split) <;> simp_all
theorem T_guard149 : Try.prog.eqGuardType Try.prog.depth 149 = false := by kernel_rfl
theorem T_eq149 : EqOk Try.prog 149 (T 149) := by
  intro _
  refine ⟨T_guard149, fun xs ys hx hy w => ?_⟩
  obtain ⟨a0, al0, rfl, hx0⟩ := km_int hx
  obtain ⟨a1, al1, rfl, hx1⟩ := km_int hx0
  obtain ⟨a2, al2, rfl, hx2⟩ := km_bool hx1
  obtain ⟨a3, al3, rfl, hx3⟩ := km_int hx2
  obtain rfl := km_nil hx3
  obtain ⟨b0, bl0, rfl, hy0⟩ := km_int hy
  obtain ⟨b1, bl1, rfl, hy1⟩ := km_int hy0
  obtain ⟨b2, bl2, rfl, hy2⟩ := km_bool hy1
  obtain ⟨b3, bl3, rfl, hy3⟩ := km_int hy2
  obtain rfl := km_nil hy3
  clear hx hy hx0 hy0 hx1 hy1 hx2 hy2 hx3 hy3
  have hs0 := T_stood149
  go_simp
  simp only [eqV]
  (repeat' split) <;> simp_all
theorem T_guard170 : Try.prog.eqGuardType Try.prog.depth 170 = false := by kernel_rfl
theorem T_eq170 : EqOk Try.prog 170 (T 170) := by
  intro _
  refine ⟨T_guard170, fun xs ys hx hy w => ?_⟩
  obtain ⟨a0, al0, rfl, hx0⟩ := km_int hx
  obtain ⟨a1, al1, rfl, hx1⟩ := km_int hx0
  obtain rfl := km_nil hx1
  obtain ⟨b0, bl0, rfl, hy0⟩ := km_int hy
  obtain ⟨b1, bl1, rfl, hy1⟩ := km_int hy0
  obtain rfl := km_nil hy1
  clear hx hy hx0 hy0 hx1 hy1
  have hs0 := T_stood170
  go_simp
  simp only [eqV]
  (repeat' split) <;> simp_all
theorem T_none : ∀ t, 202 ≤ t → (T t).kd = .none := by
  intro t ht
  unfold T
  split <;> first | (exact absurd ht (by decide)) | rfl
theorem T_eqs : ∀ t, EqOk Try.prog t (T t) := by
  intro t
  by_cases h : (T t).eqk = []
  · exact eqOk_nil h
  · have : t = 63 ∨ t = 77 ∨ t = 93 ∨ t = 149 ∨ t = 170 := by
      unfold T at h
      split at h <;> first | (exact absurd rfl h) | simp
    rcases this with rfl | rfl | rfl | rfl | rfl
    · exact T_eq63
    · exact T_eq77
    · exact T_eq93
    · exact T_eq149
    · exact T_eq170
theorem T_tt : TTOk Try.prog T := ttok 202 T_ok T_none T_eqs
theorem mixed : Try.prog.follows .mixedOrders = true := by kernel_rfl
end Go.Pc
