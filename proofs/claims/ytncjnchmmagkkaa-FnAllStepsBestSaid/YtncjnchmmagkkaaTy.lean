/- The types of this translation, as the abstract logic wants them: printed by a program out of the dump, checked against the loaded program. -/
import Derived.Test.YtncjnchmmagkkaaAlx
import Derived.Test.YtncjnchmmagkkaaProg
import Derived.KernelRfl
namespace Go.Pc
open Go Go.Proofs

def T : TypeId → Ty
  | 2 => { kd := .intk .i64, size := 1, bytes := 8, zero := [.int .i64 (0)] }
  | 3 => { kd := .intk .i64, size := 1, bytes := 8, zero := [.int .i64 (0)] }
  | 4 => { kd := .bool, size := 1, bytes := 1, zero := [.bool false] }
  | 5 => { kd := .intk .u8, size := 1, bytes := 1, zero := [.int .u8 (0)] }
  | 9 => { kd := .str, size := 1, bytes := 16, zero := [.string ByteArray.empty] }
  | 12 => { kd := .intk .u64, size := 1, bytes := 8, zero := [.int .u64 (0)] }
  | 17 => { kd := .flat, size := 1, bytes := 8, zero := [.pointer none] }
  | 21 => { kd := .intk .i32, size := 1, bytes := 4, zero := [.int .i32 (0)] }
  | 22 => { kd := .slice 5, size := 1, bytes := 24, zero := [.slice none 0 0] }
  | 23 => { kd := .slice 29, size := 1, bytes := 24, zero := [.slice none 0 0] }
  | 24 => { kd := .slice 3, size := 1, bytes := 24, zero := [.slice none 0 0] }
  | 28 => { kd := .struct [(0, 3), (1, 3)], size := 2, bytes := 16, zero := [.int .i64 (0), .int .i64 (0)] }
  | 29 => { kd := .struct [(0, 3), (1, 3)], size := 2, bytes := 16, zero := [.int .i64 (0), .int .i64 (0)], eqk := [.int, .int] }
  | 43 => { kd := .slice 139, size := 1, bytes := 24, zero := [.slice none 0 0] }
  | 44 => { kd := .struct [(0, 3), (1, 3), (2, 43)], size := 3, bytes := 40, zero := [.int .i64 (0), .int .i64 (0), .slice none 0 0] }
  | 45 => { kd := .struct [(0, 3), (1, 3), (2, 43)], size := 3, bytes := 40, zero := [.int .i64 (0), .int .i64 (0), .slice none 0 0] }
  | 47 => { kd := .slice 52, size := 1, bytes := 24, zero := [.slice none 0 0] }
  | 51 => { kd := .struct [(0, 3), (1, 3), (2, 3), (3, 4), (4, 47)], size := 5, bytes := 56, zero := [.int .i64 (0), .int .i64 (0), .int .i64 (0), .bool false, .slice none 0 0] }
  | 52 => { kd := .struct [(0, 3), (1, 3), (2, 3), (3, 4), (4, 47)], size := 5, bytes := 56, zero := [.int .i64 (0), .int .i64 (0), .int .i64 (0), .bool false, .slice none 0 0] }
  | 55 => { kd := .slice 154, size := 1, bytes := 24, zero := [.slice none 0 0] }
  | 56 => { kd := .struct [(0, 3), (1, 3), (2, 55)], size := 3, bytes := 40, zero := [.int .i64 (0), .int .i64 (0), .slice none 0 0] }
  | 57 => { kd := .struct [(0, 3), (1, 3), (2, 55)], size := 3, bytes := 40, zero := [.int .i64 (0), .int .i64 (0), .slice none 0 0] }
  | 65 => { kd := .slice 24, size := 1, bytes := 24, zero := [.slice none 0 0] }
  | 86 => { kd := .flat, size := 1, bytes := 8, zero := [.pointer none] }
  | 94 => { kd := .slice 65, size := 1, bytes := 24, zero := [.slice none 0 0] }
  | 98 => { kd := .struct [(0, 3), (1, 3), (2, 3), (3, 3)], size := 4, bytes := 32, zero := [.int .i64 (0), .int .i64 (0), .int .i64 (0), .int .i64 (0)] }
  | 99 => { kd := .struct [(0, 3), (1, 3), (2, 3), (3, 3)], size := 4, bytes := 32, zero := [.int .i64 (0), .int .i64 (0), .int .i64 (0), .int .i64 (0)], eqk := [.int, .int, .int, .int] }
  | 101 => { kd := .slice 104, size := 1, bytes := 24, zero := [.slice none 0 0] }
  | 103 => { kd := .struct [(0, 3), (1, 4), (2, 99)], size := 6, bytes := 48, zero := [.int .i64 (0), .bool false, .int .i64 (0), .int .i64 (0), .int .i64 (0), .int .i64 (0)] }
  | 104 => { kd := .struct [(0, 3), (1, 4), (2, 99)], size := 6, bytes := 48, zero := [.int .i64 (0), .bool false, .int .i64 (0), .int .i64 (0), .int .i64 (0), .int .i64 (0)], eqk := [.int, .bool, .int, .int, .int, .int] }
  | 111 => { kd := .slice 118, size := 1, bytes := 24, zero := [.slice none 0 0] }
  | 117 => { kd := .struct [(0, 3), (1, 3)], size := 2, bytes := 16, zero := [.int .i64 (0), .int .i64 (0)] }
  | 118 => { kd := .struct [(0, 3), (1, 3)], size := 2, bytes := 16, zero := [.int .i64 (0), .int .i64 (0)], eqk := [.int, .int] }
  | 120 => { kd := .array 17 3, size := 17, bytes := 136, zero := List.replicate 17 (.int .i64 (0)) }
  | 121 => { kd := .array 17 120, size := 289, bytes := 2312, zero := List.replicate 289 (.int .i64 (0)) }
  | 122 => { kd := .array 17 120, size := 289, bytes := 2312, zero := List.replicate 289 (.int .i64 (0)) }
  | 125 => { kd := .flat, size := 1, bytes := 8, zero := [.pointer none] }
  | 131 => { kd := .slice 4, size := 1, bytes := 24, zero := [.slice none 0 0] }
  | 133 => { kd := .struct [(0, 22), (1, 3)], size := 2, bytes := 32, zero := [.slice none 0 0, .int .i64 (0)] }
  | 134 => { kd := .struct [(0, 22), (1, 3)], size := 2, bytes := 32, zero := [.slice none 0 0, .int .i64 (0)] }
  | 137 => { kd := .intk .u64, size := 1, bytes := 8, zero := [.int .u64 (0)] }
  | 138 => { kd := .struct [(0, 3), (1, 3), (2, 4), (3, 3)], size := 4, bytes := 32, zero := [.int .i64 (0), .int .i64 (0), .bool false, .int .i64 (0)] }
  | 139 => { kd := .struct [(0, 3), (1, 3), (2, 4), (3, 3)], size := 4, bytes := 32, zero := [.int .i64 (0), .int .i64 (0), .bool false, .int .i64 (0)], eqk := [.int, .int, .bool, .int] }
  | 149 => { kd := .slice 152, size := 1, bytes := 24, zero := [.slice none 0 0] }
  | 151 => { kd := .struct [(0, 52), (5, 99)], size := 9, bytes := 88, zero := [.int .i64 (0), .int .i64 (0), .int .i64 (0), .bool false, .slice none 0 0, .int .i64 (0), .int .i64 (0), .int .i64 (0), .int .i64 (0)] }
  | 152 => { kd := .struct [(0, 52), (5, 99)], size := 9, bytes := 88, zero := [.int .i64 (0), .int .i64 (0), .int .i64 (0), .bool false, .slice none 0 0, .int .i64 (0), .int .i64 (0), .int .i64 (0), .int .i64 (0)] }
  | 154 => { kd := .struct [(0, 3), (1, 3), (2, 4), (3, 3)], size := 4, bytes := 32, zero := [.int .i64 (0), .int .i64 (0), .bool false, .int .i64 (0)], eqk := [.int, .int, .bool, .int] }
  | 164 => { kd := .intk .i64, size := 1, bytes := 8, zero := [.int .i64 (0)] }
  | 173 => { kd := .intk .u32, size := 1, bytes := 4, zero := [.int .u32 (0)] }
  | 175 => { kd := .intk .u64, size := 1, bytes := 8, zero := [.int .u64 (0)] }
  | 179 => { kd := .flat, size := 1, bytes := 8, zero := [.pointer none] }
  | 180 => { kd := .array 255 4, size := 255, bytes := 255, zero := List.replicate 255 (.bool false) }
  | 185 => { kd := .intk .u64, size := 1, bytes := 8, zero := [.int .u64 (0)] }
  | 189 => { kd := .flat, size := 1, bytes := 8, zero := [.pointer none] }
  | 194 => { kd := .flat, size := 1, bytes := 8, zero := [.pointer none] }
  | 207 => { kd := .flat, size := 1, bytes := 8, zero := [.pointer none] }
  | _ => {}

theorem T_ok : (List.range 213).all (fun t => tyB Try.prog t (T t)) = true := by kernel_rfl

theorem T_2 : T 2 = { kd := .intk .i64, size := 1, bytes := 8, zero := [.int .i64 (0)] } := nrf rfl
theorem T_3 : T 3 = { kd := .intk .i64, size := 1, bytes := 8, zero := [.int .i64 (0)] } := nrf rfl
theorem T_4 : T 4 = { kd := .bool, size := 1, bytes := 1, zero := [.bool false] } := nrf rfl
theorem T_5 : T 5 = { kd := .intk .u8, size := 1, bytes := 1, zero := [.int .u8 (0)] } := nrf rfl
theorem T_9 : T 9 = { kd := .str, size := 1, bytes := 16, zero := [.string ByteArray.empty] } := nrf rfl
theorem T_12 : T 12 = { kd := .intk .u64, size := 1, bytes := 8, zero := [.int .u64 (0)] } := nrf rfl
theorem T_17 : T 17 = { kd := .flat, size := 1, bytes := 8, zero := [.pointer none] } := nrf rfl
theorem T_21 : T 21 = { kd := .intk .i32, size := 1, bytes := 4, zero := [.int .i32 (0)] } := nrf rfl
theorem T_22 : T 22 = { kd := .slice 5, size := 1, bytes := 24, zero := [.slice none 0 0] } := nrf rfl
theorem T_23 : T 23 = { kd := .slice 29, size := 1, bytes := 24, zero := [.slice none 0 0] } := nrf rfl
theorem T_24 : T 24 = { kd := .slice 3, size := 1, bytes := 24, zero := [.slice none 0 0] } := nrf rfl
theorem T_28 : T 28 = { kd := .struct [(0, 3), (1, 3)], size := 2, bytes := 16, zero := [.int .i64 (0), .int .i64 (0)] } := nrf rfl
theorem T_29 : T 29 = { kd := .struct [(0, 3), (1, 3)], size := 2, bytes := 16, zero := [.int .i64 (0), .int .i64 (0)], eqk := [.int, .int] } := nrf rfl
theorem T_43 : T 43 = { kd := .slice 139, size := 1, bytes := 24, zero := [.slice none 0 0] } := nrf rfl
theorem T_44 : T 44 = { kd := .struct [(0, 3), (1, 3), (2, 43)], size := 3, bytes := 40, zero := [.int .i64 (0), .int .i64 (0), .slice none 0 0] } := nrf rfl
theorem T_45 : T 45 = { kd := .struct [(0, 3), (1, 3), (2, 43)], size := 3, bytes := 40, zero := [.int .i64 (0), .int .i64 (0), .slice none 0 0] } := nrf rfl
theorem T_47 : T 47 = { kd := .slice 52, size := 1, bytes := 24, zero := [.slice none 0 0] } := nrf rfl
theorem T_51 : T 51 = { kd := .struct [(0, 3), (1, 3), (2, 3), (3, 4), (4, 47)], size := 5, bytes := 56, zero := [.int .i64 (0), .int .i64 (0), .int .i64 (0), .bool false, .slice none 0 0] } := nrf rfl
theorem T_52 : T 52 = { kd := .struct [(0, 3), (1, 3), (2, 3), (3, 4), (4, 47)], size := 5, bytes := 56, zero := [.int .i64 (0), .int .i64 (0), .int .i64 (0), .bool false, .slice none 0 0] } := nrf rfl
theorem T_55 : T 55 = { kd := .slice 154, size := 1, bytes := 24, zero := [.slice none 0 0] } := nrf rfl
theorem T_56 : T 56 = { kd := .struct [(0, 3), (1, 3), (2, 55)], size := 3, bytes := 40, zero := [.int .i64 (0), .int .i64 (0), .slice none 0 0] } := nrf rfl
theorem T_57 : T 57 = { kd := .struct [(0, 3), (1, 3), (2, 55)], size := 3, bytes := 40, zero := [.int .i64 (0), .int .i64 (0), .slice none 0 0] } := nrf rfl
theorem T_65 : T 65 = { kd := .slice 24, size := 1, bytes := 24, zero := [.slice none 0 0] } := nrf rfl
theorem T_86 : T 86 = { kd := .flat, size := 1, bytes := 8, zero := [.pointer none] } := nrf rfl
theorem T_94 : T 94 = { kd := .slice 65, size := 1, bytes := 24, zero := [.slice none 0 0] } := nrf rfl
theorem T_98 : T 98 = { kd := .struct [(0, 3), (1, 3), (2, 3), (3, 3)], size := 4, bytes := 32, zero := [.int .i64 (0), .int .i64 (0), .int .i64 (0), .int .i64 (0)] } := nrf rfl
theorem T_99 : T 99 = { kd := .struct [(0, 3), (1, 3), (2, 3), (3, 3)], size := 4, bytes := 32, zero := [.int .i64 (0), .int .i64 (0), .int .i64 (0), .int .i64 (0)], eqk := [.int, .int, .int, .int] } := nrf rfl
theorem T_101 : T 101 = { kd := .slice 104, size := 1, bytes := 24, zero := [.slice none 0 0] } := nrf rfl
theorem T_103 : T 103 = { kd := .struct [(0, 3), (1, 4), (2, 99)], size := 6, bytes := 48, zero := [.int .i64 (0), .bool false, .int .i64 (0), .int .i64 (0), .int .i64 (0), .int .i64 (0)] } := nrf rfl
theorem T_104 : T 104 = { kd := .struct [(0, 3), (1, 4), (2, 99)], size := 6, bytes := 48, zero := [.int .i64 (0), .bool false, .int .i64 (0), .int .i64 (0), .int .i64 (0), .int .i64 (0)], eqk := [.int, .bool, .int, .int, .int, .int] } := nrf rfl
theorem T_111 : T 111 = { kd := .slice 118, size := 1, bytes := 24, zero := [.slice none 0 0] } := nrf rfl
theorem T_117 : T 117 = { kd := .struct [(0, 3), (1, 3)], size := 2, bytes := 16, zero := [.int .i64 (0), .int .i64 (0)] } := nrf rfl
theorem T_118 : T 118 = { kd := .struct [(0, 3), (1, 3)], size := 2, bytes := 16, zero := [.int .i64 (0), .int .i64 (0)], eqk := [.int, .int] } := nrf rfl
theorem T_120 : T 120 = { kd := .array 17 3, size := 17, bytes := 136, zero := List.replicate 17 (.int .i64 (0)) } := nrf rfl
theorem T_121 : T 121 = { kd := .array 17 120, size := 289, bytes := 2312, zero := List.replicate 289 (.int .i64 (0)) } := nrf rfl
theorem T_122 : T 122 = { kd := .array 17 120, size := 289, bytes := 2312, zero := List.replicate 289 (.int .i64 (0)) } := nrf rfl
theorem T_125 : T 125 = { kd := .flat, size := 1, bytes := 8, zero := [.pointer none] } := nrf rfl
theorem T_131 : T 131 = { kd := .slice 4, size := 1, bytes := 24, zero := [.slice none 0 0] } := nrf rfl
theorem T_133 : T 133 = { kd := .struct [(0, 22), (1, 3)], size := 2, bytes := 32, zero := [.slice none 0 0, .int .i64 (0)] } := nrf rfl
theorem T_134 : T 134 = { kd := .struct [(0, 22), (1, 3)], size := 2, bytes := 32, zero := [.slice none 0 0, .int .i64 (0)] } := nrf rfl
theorem T_137 : T 137 = { kd := .intk .u64, size := 1, bytes := 8, zero := [.int .u64 (0)] } := nrf rfl
theorem T_138 : T 138 = { kd := .struct [(0, 3), (1, 3), (2, 4), (3, 3)], size := 4, bytes := 32, zero := [.int .i64 (0), .int .i64 (0), .bool false, .int .i64 (0)] } := nrf rfl
theorem T_139 : T 139 = { kd := .struct [(0, 3), (1, 3), (2, 4), (3, 3)], size := 4, bytes := 32, zero := [.int .i64 (0), .int .i64 (0), .bool false, .int .i64 (0)], eqk := [.int, .int, .bool, .int] } := nrf rfl
theorem T_149 : T 149 = { kd := .slice 152, size := 1, bytes := 24, zero := [.slice none 0 0] } := nrf rfl
theorem T_151 : T 151 = { kd := .struct [(0, 52), (5, 99)], size := 9, bytes := 88, zero := [.int .i64 (0), .int .i64 (0), .int .i64 (0), .bool false, .slice none 0 0, .int .i64 (0), .int .i64 (0), .int .i64 (0), .int .i64 (0)] } := nrf rfl
theorem T_152 : T 152 = { kd := .struct [(0, 52), (5, 99)], size := 9, bytes := 88, zero := [.int .i64 (0), .int .i64 (0), .int .i64 (0), .bool false, .slice none 0 0, .int .i64 (0), .int .i64 (0), .int .i64 (0), .int .i64 (0)] } := nrf rfl
theorem T_154 : T 154 = { kd := .struct [(0, 3), (1, 3), (2, 4), (3, 3)], size := 4, bytes := 32, zero := [.int .i64 (0), .int .i64 (0), .bool false, .int .i64 (0)], eqk := [.int, .int, .bool, .int] } := nrf rfl
theorem T_164 : T 164 = { kd := .intk .i64, size := 1, bytes := 8, zero := [.int .i64 (0)] } := nrf rfl
theorem T_173 : T 173 = { kd := .intk .u32, size := 1, bytes := 4, zero := [.int .u32 (0)] } := nrf rfl
theorem T_175 : T 175 = { kd := .intk .u64, size := 1, bytes := 8, zero := [.int .u64 (0)] } := nrf rfl
theorem T_179 : T 179 = { kd := .flat, size := 1, bytes := 8, zero := [.pointer none] } := nrf rfl
theorem T_180 : T 180 = { kd := .array 255 4, size := 255, bytes := 255, zero := List.replicate 255 (.bool false) } := nrf rfl
theorem T_185 : T 185 = { kd := .intk .u64, size := 1, bytes := 8, zero := [.int .u64 (0)] } := nrf rfl
theorem T_189 : T 189 = { kd := .flat, size := 1, bytes := 8, zero := [.pointer none] } := nrf rfl
theorem T_194 : T 194 = { kd := .flat, size := 1, bytes := 8, zero := [.pointer none] } := nrf rfl
theorem T_207 : T 207 = { kd := .flat, size := 1, bytes := 8, zero := [.pointer none] } := nrf rfl
theorem T_stood29 : Try.prog.stoodInHeld 29 = false := by kernel_rfl
theorem T_stood99 : Try.prog.stoodInHeld 99 = false := by kernel_rfl
theorem T_stood104 : Try.prog.stoodInHeld 104 = false := by kernel_rfl
theorem T_stood118 : Try.prog.stoodInHeld 118 = false := by kernel_rfl
theorem T_stood139 : Try.prog.stoodInHeld 139 = false := by kernel_rfl
theorem T_stood154 : Try.prog.stoodInHeld 154 = false := by kernel_rfl
theorem T_guard29 : Try.prog.eqGuardType Try.prog.depth 29 = false := by kernel_rfl
theorem T_eq29 : EqOk Try.prog 29 (T 29) := by
  intro _
  refine ⟨T_guard29, fun xs ys hx hy w => ?_⟩
  obtain ⟨a0, al0, rfl, hx0⟩ := km_int hx
  obtain ⟨a1, al1, rfl, hx1⟩ := km_int hx0
  obtain rfl := km_nil hx1
  obtain ⟨b0, bl0, rfl, hy0⟩ := km_int hy
  obtain ⟨b1, bl1, rfl, hy1⟩ := km_int hy0
  obtain rfl := km_nil hy1
  clear hx hy hx0 hy0 hx1 hy1
  have hs0 := T_stood29
  go_simp
  simp only [eqV]
  (repeat' split) <;> simp_all
theorem T_guard99 : Try.prog.eqGuardType Try.prog.depth 99 = false := by kernel_rfl
theorem T_eq99 : EqOk Try.prog 99 (T 99) := by
  intro _
  refine ⟨T_guard99, fun xs ys hx hy w => ?_⟩
  obtain ⟨a0, al0, rfl, hx0⟩ := km_int hx
  obtain ⟨a1, al1, rfl, hx1⟩ := km_int hx0
  obtain ⟨a2, al2, rfl, hx2⟩ := km_int hx1
  obtain ⟨a3, al3, rfl, hx3⟩ := km_int hx2
  obtain rfl := km_nil hx3
  obtain ⟨b0, bl0, rfl, hy0⟩ := km_int hy
  obtain ⟨b1, bl1, rfl, hy1⟩ := km_int hy0
  obtain ⟨b2, bl2, rfl, hy2⟩ := km_int hy1
  obtain ⟨b3, bl3, rfl, hy3⟩ := km_int hy2
  obtain rfl := km_nil hy3
  clear hx hy hx0 hy0 hx1 hy1 hx2 hy2 hx3 hy3
  have hs0 := T_stood99
  go_simp
  simp only [eqV]
  (repeat' split) <;> simp_all
theorem T_guard104 : Try.prog.eqGuardType Try.prog.depth 104 = false := by kernel_rfl
theorem T_eq104 : EqOk Try.prog 104 (T 104) := by
  intro _
  refine ⟨T_guard104, fun xs ys hx hy w => ?_⟩
  obtain ⟨a0, al0, rfl, hx0⟩ := km_int hx
  obtain ⟨a1, al1, rfl, hx1⟩ := km_bool hx0
  obtain ⟨a2, al2, rfl, hx2⟩ := km_int hx1
  obtain ⟨a3, al3, rfl, hx3⟩ := km_int hx2
  obtain ⟨a4, al4, rfl, hx4⟩ := km_int hx3
  obtain ⟨a5, al5, rfl, hx5⟩ := km_int hx4
  obtain rfl := km_nil hx5
  obtain ⟨b0, bl0, rfl, hy0⟩ := km_int hy
  obtain ⟨b1, bl1, rfl, hy1⟩ := km_bool hy0
  obtain ⟨b2, bl2, rfl, hy2⟩ := km_int hy1
  obtain ⟨b3, bl3, rfl, hy3⟩ := km_int hy2
  obtain ⟨b4, bl4, rfl, hy4⟩ := km_int hy3
  obtain ⟨b5, bl5, rfl, hy5⟩ := km_int hy4
  obtain rfl := km_nil hy5
  clear hx hy hx0 hy0 hx1 hy1 hx2 hy2 hx3 hy3 hx4 hy4 hx5 hy5
  have hs0 := T_stood99
  have hs1 := T_stood104
  go_simp
  simp only [eqV]
  (repeat' split) <;> simp_all
theorem T_guard118 : Try.prog.eqGuardType Try.prog.depth 118 = false := by kernel_rfl
theorem T_eq118 : EqOk Try.prog 118 (T 118) := by
  intro _
  refine ⟨T_guard118, fun xs ys hx hy w => ?_⟩
  obtain ⟨a0, al0, rfl, hx0⟩ := km_int hx
  obtain ⟨a1, al1, rfl, hx1⟩ := km_int hx0
  obtain rfl := km_nil hx1
  obtain ⟨b0, bl0, rfl, hy0⟩ := km_int hy
  obtain ⟨b1, bl1, rfl, hy1⟩ := km_int hy0
  obtain rfl := km_nil hy1
  clear hx hy hx0 hy0 hx1 hy1
  have hs0 := T_stood118
  go_simp
  simp only [eqV]
  (repeat' split) <;> simp_all
theorem T_guard139 : Try.prog.eqGuardType Try.prog.depth 139 = false := by kernel_rfl
theorem T_eq139 : EqOk Try.prog 139 (T 139) := by
  intro _
  refine ⟨T_guard139, fun xs ys hx hy w => ?_⟩
  obtain ⟨a0, al0, rfl, hx0⟩ := km_int hx
  obtain ⟨a1, al1, rfl, hx1⟩ := km_int hx0
  obtain ⟨a2, al2, rfl, hx2⟩ := km_bool hx1
  obtain ⟨a3, al3, rfl, hx3⟩ := km_int hx2
  obtain rfl := km_nil hx3
  obtain ⟨b0, bl0, rfl, hy0⟩ := km_int hy
  obtain ⟨b1, bl1, rfl, hy1⟩ := km_int hy0
  obtain ⟨b2, bl2, rfl, hy2⟩ := km_bool hy1
  obtain ⟨b3, bl3, rfl, hy3⟩ := km_int hy2
  obtain rfl := km_nil hy3
  clear hx hy hx0 hy0 hx1 hy1 hx2 hy2 hx3 hy3
  have hs0 := T_stood139
  go_simp
  simp only [eqV]
  (repeat' split) <;> simp_all
theorem T_guard154 : Try.prog.eqGuardType Try.prog.depth 154 = false := by kernel_rfl
theorem T_eq154 : EqOk Try.prog 154 (T 154) := by
  intro _
  refine ⟨T_guard154, fun xs ys hx hy w => ?_⟩
  obtain ⟨a0, al0, rfl, hx0⟩ := km_int hx
  obtain ⟨a1, al1, rfl, hx1⟩ := km_int hx0
  obtain ⟨a2, al2, rfl, hx2⟩ := km_bool hx1
  obtain ⟨a3, al3, rfl, hx3⟩ := km_int hx2
  obtain rfl := km_nil hx3
  obtain ⟨b0, bl0, rfl, hy0⟩ := km_int hy
  obtain ⟨b1, bl1, rfl, hy1⟩ := km_int hy0
  obtain ⟨b2, bl2, rfl, hy2⟩ := km_bool hy1
  obtain ⟨b3, bl3, rfl, hy3⟩ := km_int hy2
  obtain rfl := km_nil hy3
  clear hx hy hx0 hy0 hx1 hy1 hx2 hy2 hx3 hy3
  have hs0 := T_stood154
  go_simp
  simp only [eqV]
  (repeat' split) <;> simp_all
theorem T_none : ∀ t, 213 ≤ t → (T t).kd = .none := by
  intro t ht
  unfold T
  split <;> first | (exact absurd ht (by decide)) | rfl
theorem T_eqs : ∀ t, EqOk Try.prog t (T t) := by
  intro t
  by_cases h : (T t).eqk = []
  · exact eqOk_nil h
  · have : t = 29 ∨ t = 99 ∨ t = 104 ∨ t = 118 ∨ t = 139 ∨ t = 154 := by
      unfold T at h
      split at h <;> first | (exact absurd rfl h) | simp
    rcases this with rfl | rfl | rfl | rfl | rfl | rfl
    · exact T_eq29
    · exact T_eq99
    · exact T_eq104
    · exact T_eq118
    · exact T_eq139
    · exact T_eq154
theorem T_tt : TTOk Try.prog T := ttok 213 T_ok T_none T_eqs
theorem mixed : Try.prog.follows .mixedOrders = true := by kernel_rfl
end Go.Pc
