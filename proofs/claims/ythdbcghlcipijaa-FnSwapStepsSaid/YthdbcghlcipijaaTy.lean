/- The types of this translation, as the abstract logic wants them: printed by a program out of the dump, checked against the loaded program. -/
import Derived.Test.YthdbcghlcipijaaAlt
import Derived.Test.YthdbcghlcipijaaProg
import Derived.KernelRfl
namespace Go.Pc
open Go Go.Proofs

def T : TypeId → Ty
  | 2 => { kd := .intk .i64, size := 1, bytes := 8, zero := [.int .i64 (0)] }
  | 3 => { kd := .intk .i64, size := 1, bytes := 8, zero := [.int .i64 (0)] }
  | 4 => { kd := .bool, size := 1, bytes := 1, zero := [.bool false] }
  | 5 => { kd := .intk .u8, size := 1, bytes := 1, zero := [.int .u8 (0)] }
  | 9 => { kd := .str, size := 1, bytes := 16, zero := [.string ByteArray.empty] }
  | 12 => { kd := .intk .u64, size := 1, bytes := 8, zero := [.int .u64 (0)] }
  | 17 => { kd := .flat, size := 1, bytes := 8, zero := [.pointer none] }
  | 21 => { kd := .intk .i32, size := 1, bytes := 4, zero := [.int .i32 (0)] }
  | 22 => { kd := .slice 5, size := 1, bytes := 24, zero := [.slice none 0 0] }
  | 23 => { kd := .slice 29, size := 1, bytes := 24, zero := [.slice none 0 0] }
  | 24 => { kd := .slice 3, size := 1, bytes := 24, zero := [.slice none 0 0] }
  | 28 => { kd := .struct [(0, 3), (1, 3)], size := 2, bytes := 16, zero := [.int .i64 (0), .int .i64 (0)] }
  | 29 => { kd := .struct [(0, 3), (1, 3)], size := 2, bytes := 16, zero := [.int .i64 (0), .int .i64 (0)], eqk := [.int, .int] }
  | 33 => { kd := .slice 35, size := 1, bytes := 24, zero := [.slice none 0 0] }
  | 34 => { kd := .struct [(0, 3), (1, 3), (2, 3), (3, 4), (4, 33)], size := 5, bytes := 56, zero := [.int .i64 (0), .int .i64 (0), .int .i64 (0), .bool false, .slice none 0 0] }
  | 35 => { kd := .struct [(0, 3), (1, 3), (2, 3), (3, 4), (4, 33)], size := 5, bytes := 56, zero := [.int .i64 (0), .int .i64 (0), .int .i64 (0), .bool false, .slice none 0 0] }
  | 45 => { kd := .slice 61, size := 1, bytes := 24, zero := [.slice none 0 0] }
  | 46 => { kd := .struct [(0, 3), (1, 3), (2, 45)], size := 3, bytes := 40, zero := [.int .i64 (0), .int .i64 (0), .slice none 0 0] }
  | 47 => { kd := .struct [(0, 3), (1, 3), (2, 45)], size := 3, bytes := 40, zero := [.int .i64 (0), .int .i64 (0), .slice none 0 0] }
  | 50 => { kd := .slice 123, size := 1, bytes := 24, zero := [.slice none 0 0] }
  | 58 => { kd := .slice 66, size := 1, bytes := 24, zero := [.slice none 0 0] }
  | 60 => { kd := .struct [(0, 3), (1, 3), (2, 4), (3, 3)], size := 4, bytes := 32, zero := [.int .i64 (0), .int .i64 (0), .bool false, .int .i64 (0)] }
  | 61 => { kd := .struct [(0, 3), (1, 3), (2, 4), (3, 3)], size := 4, bytes := 32, zero := [.int .i64 (0), .int .i64 (0), .bool false, .int .i64 (0)], eqk := [.int, .int, .bool, .int] }
  | 65 => { kd := .struct [(0, 3), (1, 3), (2, 3), (3, 3)], size := 4, bytes := 32, zero := [.int .i64 (0), .int .i64 (0), .int .i64 (0), .int .i64 (0)] }
  | 66 => { kd := .struct [(0, 3), (1, 3), (2, 3), (3, 3)], size := 4, bytes := 32, zero := [.int .i64 (0), .int .i64 (0), .int .i64 (0), .int .i64 (0)], eqk := [.int, .int, .int, .int] }
  | 75 => { kd := .slice 24, size := 1, bytes := 24, zero := [.slice none 0 0] }
  | 81 => { kd := .slice 173, size := 1, bytes := 24, zero := [.slice none 0 0] }
  | 82 => { kd := .struct [(0, 3), (1, 3), (2, 81)], size := 3, bytes := 40, zero := [.int .i64 (0), .int .i64 (0), .slice none 0 0] }
  | 83 => { kd := .struct [(0, 3), (1, 3), (2, 81)], size := 3, bytes := 40, zero := [.int .i64 (0), .int .i64 (0), .slice none 0 0] }
  | 84 => { kd := .slice 86, size := 1, bytes := 24, zero := [.slice none 0 0] }
  | 85 => { kd := .struct [(0, 3), (1, 3), (2, 3), (3, 4), (4, 84)], size := 5, bytes := 56, zero := [.int .i64 (0), .int .i64 (0), .int .i64 (0), .bool false, .slice none 0 0] }
  | 86 => { kd := .struct [(0, 3), (1, 3), (2, 3), (3, 4), (4, 84)], size := 5, bytes := 56, zero := [.int .i64 (0), .int .i64 (0), .int .i64 (0), .bool false, .slice none 0 0] }
  | 104 => { kd := .slice 108, size := 1, bytes := 24, zero := [.slice none 0 0] }
  | 107 => { kd := .struct [(0, 3), (1, 3)], size := 2, bytes := 16, zero := [.int .i64 (0), .int .i64 (0)] }
  | 108 => { kd := .struct [(0, 3), (1, 3)], size := 2, bytes := 16, zero := [.int .i64 (0), .int .i64 (0)], eqk := [.int, .int] }
  | 109 => { kd := .flat, size := 1, bytes := 8, zero := [.pointer none] }
  | 118 => { kd := .slice 121, size := 1, bytes := 24, zero := [.slice none 0 0] }
  | 120 => { kd := .struct [(0, 35), (5, 66)], size := 9, bytes := 88, zero := [.int .i64 (0), .int .i64 (0), .int .i64 (0), .bool false, .slice none 0 0, .int .i64 (0), .int .i64 (0), .int .i64 (0), .int .i64 (0)] }
  | 121 => { kd := .struct [(0, 35), (5, 66)], size := 9, bytes := 88, zero := [.int .i64 (0), .int .i64 (0), .int .i64 (0), .bool false, .slice none 0 0, .int .i64 (0), .int .i64 (0), .int .i64 (0), .int .i64 (0)] }
  | 122 => { kd := .struct [(0, 3), (1, 4), (2, 66)], size := 6, bytes := 48, zero := [.int .i64 (0), .bool false, .int .i64 (0), .int .i64 (0), .int .i64 (0), .int .i64 (0)] }
  | 123 => { kd := .struct [(0, 3), (1, 4), (2, 66)], size := 6, bytes := 48, zero := [.int .i64 (0), .bool false, .int .i64 (0), .int .i64 (0), .int .i64 (0), .int .i64 (0)], eqk := [.int, .bool, .int, .int, .int, .int] }
  | 149 => { kd := .slice 4, size := 1, bytes := 24, zero := [.slice none 0 0] }
  | 157 => { kd := .struct [(0, 22), (1, 3)], size := 2, bytes := 32, zero := [.slice none 0 0, .int .i64 (0)] }
  | 158 => { kd := .struct [(0, 22), (1, 3)], size := 2, bytes := 32, zero := [.slice none 0 0, .int .i64 (0)] }
  | 171 => { kd := .intk .u64, size := 1, bytes := 8, zero := [.int .u64 (0)] }
  | 173 => { kd := .struct [(0, 3), (1, 3), (2, 4), (3, 3)], size := 4, bytes := 32, zero := [.int .i64 (0), .int .i64 (0), .bool false, .int .i64 (0)], eqk := [.int, .int, .bool, .int] }
  | 175 => { kd := .array 255 4, size := 255, bytes := 255, zero := List.replicate 255 (.bool false) }
  | 178 => { kd := .flat, size := 1, bytes := 8, zero := [.pointer none] }
  | 181 => { kd := .intk .i64, size := 1, bytes := 8, zero := [.int .i64 (0)] }
  | 190 => { kd := .intk .u32, size := 1, bytes := 4, zero := [.int .u32 (0)] }
  | 192 => { kd := .intk .u64, size := 1, bytes := 8, zero := [.int .u64 (0)] }
  | 195 => { kd := .intk .u64, size := 1, bytes := 8, zero := [.int .u64 (0)] }
  | 199 => { kd := .flat, size := 1, bytes := 8, zero := [.pointer none] }
  | 202 => { kd := .flat, size := 1, bytes := 8, zero := [.pointer none] }
  | 215 => { kd := .flat, size := 1, bytes := 8, zero := [.pointer none] }
  | _ => {}

theorem T_ok : (List.range 221).all (fun t => tyB Try.prog t (T t)) = true := by kernel_rfl

theorem T_2 : T 2 = { kd := .intk .i64, size := 1, bytes := 8, zero := [.int .i64 (0)] } := nrf rfl
theorem T_3 : T 3 = { kd := .intk .i64, size := 1, bytes := 8, zero := [.int .i64 (0)] } := nrf rfl
theorem T_4 : T 4 = { kd := .bool, size := 1, bytes := 1, zero := [.bool false] } := nrf rfl
theorem T_5 : T 5 = { kd := .intk .u8, size := 1, bytes := 1, zero := [.int .u8 (0)] } := nrf rfl
theorem T_9 : T 9 = { kd := .str, size := 1, bytes := 16, zero := [.string ByteArray.empty] } := nrf rfl
theorem T_12 : T 12 = { kd := .intk .u64, size := 1, bytes := 8, zero := [.int .u64 (0)] } := nrf rfl
theorem T_17 : T 17 = { kd := .flat, size := 1, bytes := 8, zero := [.pointer none] } := nrf rfl
theorem T_21 : T 21 = { kd := .intk .i32, size := 1, bytes := 4, zero := [.int .i32 (0)] } := nrf rfl
theorem T_22 : T 22 = { kd := .slice 5, size := 1, bytes := 24, zero := [.slice none 0 0] } := nrf rfl
theorem T_23 : T 23 = { kd := .slice 29, size := 1, bytes := 24, zero := [.slice none 0 0] } := nrf rfl
theorem T_24 : T 24 = { kd := .slice 3, size := 1, bytes := 24, zero := [.slice none 0 0] } := nrf rfl
theorem T_28 : T 28 = { kd := .struct [(0, 3), (1, 3)], size := 2, bytes := 16, zero := [.int .i64 (0), .int .i64 (0)] } := nrf rfl
theorem T_29 : T 29 = { kd := .struct [(0, 3), (1, 3)], size := 2, bytes := 16, zero := [.int .i64 (0), .int .i64 (0)], eqk := [.int, .int] } := nrf rfl
theorem T_33 : T 33 = { kd := .slice 35, size := 1, bytes := 24, zero := [.slice none 0 0] } := nrf rfl
theorem T_34 : T 34 = { kd := .struct [(0, 3), (1, 3), (2, 3), (3, 4), (4, 33)], size := 5, bytes := 56, zero := [.int .i64 (0), .int .i64 (0), .int .i64 (0), .bool false, .slice none 0 0] } := nrf rfl
theorem T_35 : T 35 = { kd := .struct [(0, 3), (1, 3), (2, 3), (3, 4), (4, 33)], size := 5, bytes := 56, zero := [.int .i64 (0), .int .i64 (0), .int .i64 (0), .bool false, .slice none 0 0] } := nrf rfl
theorem T_45 : T 45 = { kd := .slice 61, size := 1, bytes := 24, zero := [.slice none 0 0] } := nrf rfl
theorem T_46 : T 46 = { kd := .struct [(0, 3), (1, 3), (2, 45)], size := 3, bytes := 40, zero := [.int .i64 (0), .int .i64 (0), .slice none 0 0] } := nrf rfl
theorem T_47 : T 47 = { kd := .struct [(0, 3), (1, 3), (2, 45)], size := 3, bytes := 40, zero := [.int .i64 (0), .int .i64 (0), .slice none 0 0] } := nrf rfl
theorem T_50 : T 50 = { kd := .slice 123, size := 1, bytes := 24, zero := [.slice none 0 0] } := nrf rfl
theorem T_58 : T 58 = { kd := .slice 66, size := 1, bytes := 24, zero := [.slice none 0 0] } := nrf rfl
theorem T_60 : T 60 = { kd := .struct [(0, 3), (1, 3), (2, 4), (3, 3)], size := 4, bytes := 32, zero := [.int .i64 (0), .int .i64 (0), .bool false, .int .i64 (0)] } := nrf rfl
theorem T_61 : T 61 = { kd := .struct [(0, 3), (1, 3), (2, 4), (3, 3)], size := 4, bytes := 32, zero := [.int .i64 (0), .int .i64 (0), .bool false, .int .i64 (0)], eqk := [.int, .int, .bool, .int] } := nrf rfl
theorem T_65 : T 65 = { kd := .struct [(0, 3), (1, 3), (2, 3), (3, 3)], size := 4, bytes := 32, zero := [.int .i64 (0), .int .i64 (0), .int .i64 (0), .int .i64 (0)] } := nrf rfl
theorem T_66 : T 66 = { kd := .struct [(0, 3), (1, 3), (2, 3), (3, 3)], size := 4, bytes := 32, zero := [.int .i64 (0), .int .i64 (0), .int .i64 (0), .int .i64 (0)], eqk := [.int, .int, .int, .int] } := nrf rfl
theorem T_75 : T 75 = { kd := .slice 24, size := 1, bytes := 24, zero := [.slice none 0 0] } := nrf rfl
theorem T_81 : T 81 = { kd := .slice 173, size := 1, bytes := 24, zero := [.slice none 0 0] } := nrf rfl
theorem T_82 : T 82 = { kd := .struct [(0, 3), (1, 3), (2, 81)], size := 3, bytes := 40, zero := [.int .i64 (0), .int .i64 (0), .slice none 0 0] } := nrf rfl
theorem T_83 : T 83 = { kd := .struct [(0, 3), (1, 3), (2, 81)], size := 3, bytes := 40, zero := [.int .i64 (0), .int .i64 (0), .slice none 0 0] } := nrf rfl
theorem T_84 : T 84 = { kd := .slice 86, size := 1, bytes := 24, zero := [.slice none 0 0] } := nrf rfl
theorem T_85 : T 85 = { kd := .struct [(0, 3), (1, 3), (2, 3), (3, 4), (4, 84)], size := 5, bytes := 56, zero := [.int .i64 (0), .int .i64 (0), .int .i64 (0), .bool false, .slice none 0 0] } := nrf rfl
theorem T_86 : T 86 = { kd := .struct [(0, 3), (1, 3), (2, 3), (3, 4), (4, 84)], size := 5, bytes := 56, zero := [.int .i64 (0), .int .i64 (0), .int .i64 (0), .bool false, .slice none 0 0] } := nrf rfl
theorem T_104 : T 104 = { kd := .slice 108, size := 1, bytes := 24, zero := [.slice none 0 0] } := nrf rfl
theorem T_107 : T 107 = { kd := .struct [(0, 3), (1, 3)], size := 2, bytes := 16, zero := [.int .i64 (0), .int .i64 (0)] } := nrf rfl
theorem T_108 : T 108 = { kd := .struct [(0, 3), (1, 3)], size := 2, bytes := 16, zero := [.int .i64 (0), .int .i64 (0)], eqk := [.int, .int] } := nrf rfl
theorem T_109 : T 109 = { kd := .flat, size := 1, bytes := 8, zero := [.pointer none] } := nrf rfl
theorem T_118 : T 118 = { kd := .slice 121, size := 1, bytes := 24, zero := [.slice none 0 0] } := nrf rfl
theorem T_120 : T 120 = { kd := .struct [(0, 35), (5, 66)], size := 9, bytes := 88, zero := [.int .i64 (0), .int .i64 (0), .int .i64 (0), .bool false, .slice none 0 0, .int .i64 (0), .int .i64 (0), .int .i64 (0), .int .i64 (0)] } := nrf rfl
theorem T_121 : T 121 = { kd := .struct [(0, 35), (5, 66)], size := 9, bytes := 88, zero := [.int .i64 (0), .int .i64 (0), .int .i64 (0), .bool false, .slice none 0 0, .int .i64 (0), .int .i64 (0), .int .i64 (0), .int .i64 (0)] } := nrf rfl
theorem T_122 : T 122 = { kd := .struct [(0, 3), (1, 4), (2, 66)], size := 6, bytes := 48, zero := [.int .i64 (0), .bool false, .int .i64 (0), .int .i64 (0), .int .i64 (0), .int .i64 (0)] } := nrf rfl
theorem T_123 : T 123 = { kd := .struct [(0, 3), (1, 4), (2, 66)], size := 6, bytes := 48, zero := [.int .i64 (0), .bool false, .int .i64 (0), .int .i64 (0), .int .i64 (0), .int .i64 (0)], eqk := [.int, .bool, .int, .int, .int, .int] } := nrf rfl
theorem T_149 : T 149 = { kd := .slice 4, size := 1, bytes := 24, zero := [.slice none 0 0] } := nrf rfl
theorem T_157 : T 157 = { kd := .struct [(0, 22), (1, 3)], size := 2, bytes := 32, zero := [.slice none 0 0, .int .i64 (0)] } := nrf rfl
theorem T_158 : T 158 = { kd := .struct [(0, 22), (1, 3)], size := 2, bytes := 32, zero := [.slice none 0 0, .int .i64 (0)] } := nrf rfl
theorem T_171 : T 171 = { kd := .intk .u64, size := 1, bytes := 8, zero := [.int .u64 (0)] } := nrf rfl
theorem T_173 : T 173 = { kd := .struct [(0, 3), (1, 3), (2, 4), (3, 3)], size := 4, bytes := 32, zero := [.int .i64 (0), .int .i64 (0), .bool false, .int .i64 (0)], eqk := [.int, .int, .bool, .int] } := nrf rfl
theorem T_175 : T 175 = { kd := .array 255 4, size := 255, bytes := 255, zero := List.replicate 255 (.bool false) } := nrf rfl
theorem T_178 : T 178 = { kd := .flat, size := 1, bytes := 8, zero := [.pointer none] } := nrf rfl
theorem T_181 : T 181 = { kd := .intk .i64, size := 1, bytes := 8, zero := [.int .i64 (0)] } := nrf rfl
theorem T_190 : T 190 = { kd := .intk .u32, size := 1, bytes := 4, zero := [.int .u32 (0)] } := nrf rfl
theorem T_192 : T 192 = { kd := .intk .u64, size := 1, bytes := 8, zero := [.int .u64 (0)] } := nrf rfl
theorem T_195 : T 195 = { kd := .intk .u64, size := 1, bytes := 8, zero := [.int .u64 (0)] } := nrf rfl
theorem T_199 : T 199 = { kd := .flat, size := 1, bytes := 8, zero := [.pointer none] } := nrf rfl
theorem T_202 : T 202 = { kd := .flat, size := 1, bytes := 8, zero := [.pointer none] } := nrf rfl
theorem T_215 : T 215 = { kd := .flat, size := 1, bytes := 8, zero := [.pointer none] } := nrf rfl
theorem T_stood29 : Try.prog.stoodInHeld 29 = false := by kernel_rfl
theorem T_stood61 : Try.prog.stoodInHeld 61 = false := by kernel_rfl
theorem T_stood66 : Try.prog.stoodInHeld 66 = false := by kernel_rfl
theorem T_stood108 : Try.prog.stoodInHeld 108 = false := by kernel_rfl
theorem T_stood123 : Try.prog.stoodInHeld 123 = false := by kernel_rfl
theorem T_stood173 : Try.prog.stoodInHeld 173 = false := by kernel_rfl
theorem T_guard29 : Try.prog.eqGuardType Try.prog.depth 29 = false := by kernel_rfl
theorem T_eq29 : EqOk Try.prog 29 (T 29) := by
  intro _
  refine ⟨T_guard29, fun xs ys hx hy w => ?_⟩
  obtain ⟨a0, al0, rfl, hx0⟩ := km_int hx
  obtain ⟨a1, al1, rfl, hx1⟩ := km_int hx0
  obtain rfl := km_nil hx1
  obtain ⟨b0, bl0, rfl, hy0⟩ := km_int hy
  obtain ⟨b1, bl1, rfl, hy1⟩ := km_int hy0
  obtain rfl := km_nil hy1
  clear hx hy hx0 hy0 hx1 hy1
  have hs0 := T_stood29
  go_simp
  simp only [eqV]
  (repeat' split) <;> simp_all
theorem T_guard61 : Try.prog.eqGuardType Try.prog.depth 61 = false := by kernel_rfl
theorem T_eq61 : EqOk Try.prog 61 (T 61) := by
  intro _
  refine ⟨T_guard61, fun xs ys hx hy w => ?_⟩
  obtain ⟨a0, al0, rfl, hx0⟩ := km_int hx
  obtain ⟨a1, al1, rfl, hx1⟩ := km_int hx0
  obtain ⟨a2, al2, rfl, hx2⟩ := km_bool hx1
  obtain ⟨a3, al3, rfl, hx3⟩ := km_int hx2
  obtain rfl := km_nil hx3
  obtain ⟨b0, bl0, rfl, hy0⟩ := km_int hy
  obtain ⟨b1, bl1, rfl, hy1⟩ := km_int hy0
  obtain ⟨b2, bl2, rfl, hy2⟩ := km_bool hy1
  obtain ⟨b3, bl3, rfl, hy3⟩ := km_int hy2
  obtain rfl := km_nil hy3
  clear hx hy hx0 hy0 hx1 hy1 hx2 hy2 hx3 hy3
  have hs0 := T_stood61
  go_simp
  simp only [eqV]
  (repeat' split) <;> simp_all
theorem T_guard66 : Try.prog.eqGuardType Try.prog.depth 66 = false := by kernel_rfl
theorem T_eq66 : EqOk Try.prog 66 (T 66) := by
  intro _
  refine ⟨T_guard66, fun xs ys hx hy w => ?_⟩
  obtain ⟨a0, al0, rfl, hx0⟩ := km_int hx
  obtain ⟨a1, al1, rfl, hx1⟩ := km_int hx0
  obtain ⟨a2, al2, rfl, hx2⟩ := km_int hx1
  obtain ⟨a3, al3, rfl, hx3⟩ := km_int hx2
  obtain rfl := km_nil hx3
  obtain ⟨b0, bl0, rfl, hy0⟩ := km_int hy
  obtain ⟨b1, bl1, rfl, hy1⟩ := km_int hy0
  obtain ⟨b2, bl2, rfl, hy2⟩ := km_int hy1
  obtain ⟨b3, bl3, rfl, hy3⟩ := km_int hy2
  obtain rfl := km_nil hy3
  clear hx hy hx0 hy0 hx1 hy1 hx2 hy2 hx3 hy3
  have hs0 := T_stood66
  go_simp
  simp only [eqV]
  (repeat' split) <;> simp_all
theorem T_guard108 : Try.prog.eqGuardType Try.prog.depth 108 = false := by kernel_rfl
theorem T_eq108 : EqOk Try.prog 108 (T 108) := by
  intro _
  refine ⟨T_guard108, fun xs ys hx hy w => ?_⟩
  obtain ⟨a0, al0, rfl, hx0⟩ := km_int hx
  obtain ⟨a1, al1, rfl, hx1⟩ := km_int hx0
  obtain rfl := km_nil hx1
  obtain ⟨b0, bl0, rfl, hy0⟩ := km_int hy
  obtain ⟨b1, bl1, rfl, hy1⟩ := km_int hy0
  obtain rfl := km_nil hy1
  clear hx hy hx0 hy0 hx1 hy1
  have hs0 := T_stood108
  go_simp
  simp only [eqV]
  (repeat' split) <;> simp_all
theorem T_guard123 : Try.prog.eqGuardType Try.prog.depth 123 = false := by kernel_rfl
theorem T_eq123 : EqOk Try.prog 123 (T 123) := by
  intro _
  refine ⟨T_guard123, fun xs ys hx hy w => ?_⟩
  obtain ⟨a0, al0, rfl, hx0⟩ := km_int hx
  obtain ⟨a1, al1, rfl, hx1⟩ := km_bool hx0
  obtain ⟨a2, al2, rfl, hx2⟩ := km_int hx1
  obtain ⟨a3, al3, rfl, hx3⟩ := km_int hx2
  obtain ⟨a4, al4, rfl, hx4⟩ := km_int hx3
  obtain ⟨a5, al5, rfl, hx5⟩ := km_int hx4
  obtain rfl := km_nil hx5
  obtain ⟨b0, bl0, rfl, hy0⟩ := km_int hy
  obtain ⟨b1, bl1, rfl, hy1⟩ := km_bool hy0
  obtain ⟨b2, bl2, rfl, hy2⟩ := km_int hy1
  obtain ⟨b3, bl3, rfl, hy3⟩ := km_int hy2
  obtain ⟨b4, bl4, rfl, hy4⟩ := km_int hy3
  obtain ⟨b5, bl5, rfl, hy5⟩ := km_int hy4
  obtain rfl := km_nil hy5
  clear hx hy hx0 hy0 hx1 hy1 hx2 hy2 hx3 hy3 hx4 hy4 hx5 hy5
  have hs0 := T_stood66
  have hs1 := T_stood123
  go_simp
  simp only [eqV]
  (repeat' split) <;> simp_all
theorem T_guard173 : Try.prog.eqGuardType Try.prog.depth 173 = false := by kernel_rfl
theorem T_eq173 : EqOk Try.prog 173 (T 173) := by
  intro _
  refine ⟨T_guard173, fun xs ys hx hy w => ?_⟩
  obtain ⟨a0, al0, rfl, hx0⟩ := km_int hx
  obtain ⟨a1, al1, rfl, hx1⟩ := km_int hx0
  obtain ⟨a2, al2, rfl, hx2⟩ := km_bool hx1
  obtain ⟨a3, al3, rfl, hx3⟩ := km_int hx2
  obtain rfl := km_nil hx3
  obtain ⟨b0, bl0, rfl, hy0⟩ := km_int hy
  obtain ⟨b1, bl1, rfl, hy1⟩ := km_int hy0
  obtain ⟨b2, bl2, rfl, hy2⟩ := km_bool hy1
  obtain ⟨b3, bl3, rfl, hy3⟩ := km_int hy2
  obtain rfl := km_nil hy3
  clear hx hy hx0 hy0 hx1 hy1 hx2 hy2 hx3 hy3
  have hs0 := T_stood173
  go_simp
  simp only [eqV]
  (repeat' split) <;> simp_all
theorem T_none : ∀ t, 221 ≤ t → (T t).kd = .none := by
  intro t ht
  unfold T
  split <;> first | (exact absurd ht (by decide)) | rfl
theorem T_eqs : ∀ t, EqOk Try.prog t (T t) := by
  intro t
  by_cases h : (T t).eqk = []
  · exact eqOk_nil h
  · have : t = 29 ∨ t = 61 ∨ t = 66 ∨ t = 108 ∨ t = 123 ∨ t = 173 := by
      unfold T at h
      split at h <;> first | (exact absurd rfl h) | simp
    rcases this with rfl | rfl | rfl | rfl | rfl | rfl
    · exact T_eq29
    · exact T_eq61
    · exact T_eq66
    · exact T_eq108
    · exact T_eq123
    · exact T_eq173
theorem T_tt : TTOk Try.prog T := ttok 221 T_ok T_none T_eqs
theorem mixed : Try.prog.follows .mixedOrders = true := by kernel_rfl
end Go.Pc
