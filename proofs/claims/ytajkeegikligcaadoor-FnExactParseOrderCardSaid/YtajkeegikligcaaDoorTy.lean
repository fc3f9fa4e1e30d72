/- The types of this translation, as the abstract logic wants them: printed by a program out of the dump, checked against the loaded program. -/
import Derived.Test.YtajkeegikligcaaDoorAlx
import Derived.Test.YtajkeegikligcaaDoorProg
import Derived.KernelRfl
namespace Go.Pc
open Go Go.Proofs

def T : TypeId → Ty
  | 2 => { kd := .intk .i64, size := 1, bytes := 8, zero := [.int .i64 (0)] }
  | 3 => { kd := .intk .i64, size := 1, bytes := 8, zero := [.int .i64 (0)] }
  | 4 => { kd := .bool, size := 1, bytes := 1, zero := [.bool false] }
  | 5 => { kd := .intk .u8, size := 1, bytes := 1, zero := [.int .u8 (0)] }
  | 9 => { kd := .str, size := 1, bytes := 16, zero := [.string ByteArray.empty] }
  | 12 => { kd := .intk .u64, size := 1, bytes := 8, zero := [.int .u64 (0)] }
  | 17 => { kd := .flat, size := 1, bytes := 8, zero := [.pointer none] }
  | 21 => { kd := .intk .i32, size := 1, bytes := 4, zero := [.int .i32 (0)] }
  | 22 => { kd := .slice 24, size := 1, bytes := 24, zero := [.slice none 0 0] }
  | 23 => { kd := .struct [(0, 3), (1, 3), (2, 3), (3, 4), (4, 22)], size := 5, bytes := 56, zero := [.int .i64 (0), .int .i64 (0), .int .i64 (0), .bool false, .slice none 0 0] }
  | 24 => { kd := .struct [(0, 3), (1, 3), (2, 3), (3, 4), (4, 22)], size := 5, bytes := 56, zero := [.int .i64 (0), .int .i64 (0), .int .i64 (0), .bool false, .slice none 0 0] }
  | 27 => { kd := .slice 29, size := 1, bytes := 24, zero := [.slice none 0 0] }
  | 28 => { kd := .struct [(0, 3), (1, 3), (2, 3), (3, 4), (4, 27)], size := 5, bytes := 56, zero := [.int .i64 (0), .int .i64 (0), .int .i64 (0), .bool false, .slice none 0 0] }
  | 29 => { kd := .struct [(0, 3), (1, 3), (2, 3), (3, 4), (4, 27)], size := 5, bytes := 56, zero := [.int .i64 (0), .int .i64 (0), .int .i64 (0), .bool false, .slice none 0 0] }
  | 33 => { kd := .slice 63, size := 1, bytes := 24, zero := [.slice none 0 0] }
  | 36 => { kd := .slice 59, size := 1, bytes := 24, zero := [.slice none 0 0] }
  | 48 => { kd := .flat, size := 1, bytes := 8, zero := [.pointer none] }
  | 49 => { kd := .slice 5, size := 1, bytes := 24, zero := [.slice none 0 0] }
  | 50 => { kd := .struct [(0, 48), (1, 49)], size := 2, bytes := 32, zero := [.pointer none, .slice none 0 0] }
  | 51 => { kd := .struct [(0, 48), (1, 49)], size := 2, bytes := 32, zero := [.pointer none, .slice none 0 0] }
  | 56 => { kd := .struct [(0, 3), (1, 3), (2, 4), (3, 3)], size := 4, bytes := 32, zero := [.int .i64 (0), .int .i64 (0), .bool false, .int .i64 (0)] }
  | 57 => { kd := .struct [(0, 3), (1, 3), (2, 4), (3, 3)], size := 4, bytes := 32, zero := [.int .i64 (0), .int .i64 (0), .bool false, .int .i64 (0)], eqk := [.int, .int, .bool, .int] }
  | 58 => { kd := .struct [(0, 57), (4, 3)], size := 5, bytes := 40, zero := [.int .i64 (0), .int .i64 (0), .bool false, .int .i64 (0), .int .i64 (0)] }
  | 59 => { kd := .struct [(0, 57), (4, 3)], size := 5, bytes := 40, zero := [.int .i64 (0), .int .i64 (0), .bool false, .int .i64 (0), .int .i64 (0)], eqk := [.int, .int, .bool, .int, .int] }
  | 61 => { kd := .struct [(0, 3), (1, 3), (2, 4), (3, 3)], size := 4, bytes := 32, zero := [.int .i64 (0), .int .i64 (0), .bool false, .int .i64 (0)], eqk := [.int, .int, .bool, .int] }
  | 62 => { kd := .struct [(0, 61), (4, 3)], size := 5, bytes := 40, zero := [.int .i64 (0), .int .i64 (0), .bool false, .int .i64 (0), .int .i64 (0)] }
  | 63 => { kd := .struct [(0, 61), (4, 3)], size := 5, bytes := 40, zero := [.int .i64 (0), .int .i64 (0), .bool false, .int .i64 (0), .int .i64 (0)], eqk := [.int, .int, .bool, .int, .int] }
  | 71 => { kd := .slice 9, size := 1, bytes := 24, zero := [.slice none 0 0] }
  | 81 => { kd := .flat, size := 1, bytes := 8, zero := [.pointer none] }
  | 89 => { kd := .slice 3, size := 1, bytes := 24, zero := [.slice none 0 0] }
  | 104 => { kd := .intk .u64, size := 1, bytes := 8, zero := [.int .u64 (0)] }
  | 106 => { kd := .array 24 5, size := 24, bytes := 24, zero := List.replicate 24 (.int .u8 (0)) }
  | 107 => { kd := .intk .u64, size := 1, bytes := 8, zero := [.int .u64 (0)] }
  | 113 => { kd := .intk .u32, size := 1, bytes := 4, zero := [.int .u32 (0)] }
  | 119 => { kd := .array 20 107, size := 20, bytes := 160, zero := List.replicate 20 (.int .u64 (0)) }
  | 120 => { kd := .array 65 5, size := 65, bytes := 65, zero := List.replicate 65 (.int .u8 (0)) }
  | 124 => { kd := .array 256 5, size := 256, bytes := 256, zero := List.replicate 256 (.int .u8 (0)) }
  | 125 => { kd := .struct [(0, 5), (1, 5)], size := 2, bytes := 2, zero := [.int .u8 (0), .int .u8 (0)] }
  | 126 => { kd := .struct [(0, 5), (1, 5)], size := 2, bytes := 2, zero := [.int .u8 (0), .int .u8 (0)] }
  | 127 => { kd := .array 16 126, size := 32, bytes := 32, zero := List.replicate 32 (.int .u8 (0)) }
  | 128 => { kd := .array 32 5, size := 32, bytes := 32, zero := List.replicate 32 (.int .u8 (0)) }
  | 129 => { kd := .array 64 5, size := 64, bytes := 64, zero := List.replicate 64 (.int .u8 (0)) }
  | _ => {}

theorem T_ok : (List.range 143).all (fun t => tyB Tryd.prog t (T t)) = true := by kernel_rfl

theorem T_2 : T 2 = { kd := .intk .i64, size := 1, bytes := 8, zero := [.int .i64 (0)] } := nrf rfl
theorem T_3 : T 3 = { kd := .intk .i64, size := 1, bytes := 8, zero := [.int .i64 (0)] } := nrf rfl
theorem T_4 : T 4 = { kd := .bool, size := 1, bytes := 1, zero := [.bool false] } := nrf rfl
theorem T_5 : T 5 = { kd := .intk .u8, size := 1, bytes := 1, zero := [.int .u8 (0)] } := nrf rfl
theorem T_9 : T 9 = { kd := .str, size := 1, bytes := 16, zero := [.string ByteArray.empty] } := nrf rfl
theorem T_12 : T 12 = { kd := .intk .u64, size := 1, bytes := 8, zero := [.int .u64 (0)] } := nrf rfl
theorem T_17 : T 17 = { kd := .flat, size := 1, bytes := 8, zero := [.pointer none] } := nrf rfl
theorem T_21 : T 21 = { kd := .intk .i32, size := 1, bytes := 4, zero := [.int .i32 (0)] } := nrf rfl
theorem T_22 : T 22 = { kd := .slice 24, size := 1, bytes := 24, zero := [.slice none 0 0] } := nrf rfl
theorem T_23 : T 23 = { kd := .struct [(0, 3), (1, 3), (2, 3), (3, 4), (4, 22)], size := 5, bytes := 56, zero := [.int .i64 (0), .int .i64 (0), .int .i64 (0), .bool false, .slice none 0 0] } := nrf rfl
theorem T_24 : T 24 = { kd := .struct [(0, 3), (1, 3), (2, 3), (3, 4), (4, 22)], size := 5, bytes := 56, zero := [.int .i64 (0), .int .i64 (0), .int .i64 (0), .bool false, .slice none 0 0] } := nrf rfl
theorem T_27 : T 27 = { kd := .slice 29, size := 1, bytes := 24, zero := [.slice none 0 0] } := nrf rfl
theorem T_28 : T 28 = { kd := .struct [(0, 3), (1, 3), (2, 3), (3, 4), (4, 27)], size := 5, bytes := 56, zero := [.int .i64 (0), .int .i64 (0), .int .i64 (0), .bool false, .slice none 0 0] } := nrf rfl
theorem T_29 : T 29 = { kd := .struct [(0, 3), (1, 3), (2, 3), (3, 4), (4, 27)], size := 5, bytes := 56, zero := [.int .i64 (0), .int .i64 (0), .int .i64 (0), .bool false, .slice none 0 0] } := nrf rfl
theorem T_33 : T 33 = { kd := .slice 63, size := 1, bytes := 24, zero := [.slice none 0 0] } := nrf rfl
theorem T_36 : T 36 = { kd := .slice 59, size := 1, bytes := 24, zero := [.slice none 0 0] } := nrf rfl
theorem T_48 : T 48 = { kd := .flat, size := 1, bytes := 8, zero := [.pointer none] } := nrf rfl
theorem T_49 : T 49 = { kd := .slice 5, size := 1, bytes := 24, zero := [.slice none 0 0] } := nrf rfl
theorem T_50 : T 50 = { kd := .struct [(0, 48), (1, 49)], size := 2, bytes := 32, zero := [.pointer none, .slice none 0 0] } := nrf rfl
theorem T_51 : T 51 = { kd := .struct [(0, 48), (1, 49)], size := 2, bytes := 32, zero := [.pointer none, .slice none 0 0] } := nrf rfl
theorem T_56 : T 56 = { kd := .struct [(0, 3), (1, 3), (2, 4), (3, 3)], size := 4, bytes := 32, zero := [.int .i64 (0), .int .i64 (0), .bool false, .int .i64 (0)] } := nrf rfl
theorem T_57 : T 57 = { kd := .struct [(0, 3), (1, 3), (2, 4), (3, 3)], size := 4, bytes := 32, zero := [.int .i64 (0), .int .i64 (0), .bool false, .int .i64 (0)], eqk := [.int, .int, .bool, .int] } := nrf rfl
theorem T_58 : T 58 = { kd := .struct [(0, 57), (4, 3)], size := 5, bytes := 40, zero := [.int .i64 (0), .int .i64 (0), .bool false, .int .i64 (0), .int .i64 (0)] } := nrf rfl
theorem T_59 : T 59 = { kd := .struct [(0, 57), (4, 3)], size := 5, bytes := 40, zero := [.int .i64 (0), .int .i64 (0), .bool false, .int .i64 (0), .int .i64 (0)], eqk := [.int, .int, .bool, .int, .int] } := nrf rfl
theorem T_61 : T 61 = { kd := .struct [(0, 3), (1, 3), (2, 4), (3, 3)], size := 4, bytes := 32, zero := [.int .i64 (0), .int .i64 (0), .bool false, .int .i64 (0)], eqk := [.int, .int, .bool, .int] } := nrf rfl
theorem T_62 : T 62 = { kd := .struct [(0, 61), (4, 3)], size := 5, bytes := 40, zero := [.int .i64 (0), .int .i64 (0), .bool false, .int .i64 (0), .int .i64 (0)] } := nrf rfl
theorem T_63 : T 63 = { kd := .struct [(0, 61), (4, 3)], size := 5, bytes := 40, zero := [.int .i64 (0), .int .i64 (0), .bool false, .int .i64 (0), .int .i64 (0)], eqk := [.int, .int, .bool, .int, .int] } := nrf rfl
theorem T_71 : T 71 = { kd := .slice 9, size := 1, bytes := 24, zero := [.slice none 0 0] } := nrf rfl
theorem T_81 : T 81 = { kd := .flat, size := 1, bytes := 8, zero := [.pointer none] } := nrf rfl
theorem T_89 : T 89 = { kd := .slice 3, size := 1, bytes := 24, zero := [.slice none 0 0] } := nrf rfl
theorem T_104 : T 104 = { kd := .intk .u64, size := 1, bytes := 8, zero := [.int .u64 (0)] } := nrf rfl
theorem T_106 : T 106 = { kd := .array 24 5, size := 24, bytes := 24, zero := List.replicate 24 (.int .u8 (0)) } := nrf rfl
theorem T_107 : T 107 = { kd := .intk .u64, size := 1, bytes := 8, zero := [.int .u64 (0)] } := nrf rfl
theorem T_113 : T 113 = { kd := .intk .u32, size := 1, bytes := 4, zero := [.int .u32 (0)] } := nrf rfl
theorem T_119 : T 119 = { kd := .array 20 107, size := 20, bytes := 160, zero := List.replicate 20 (.int .u64 (0)) } := nrf rfl
theorem T_120 : T 120 = { kd := .array 65 5, size := 65, bytes := 65, zero := List.replicate 65 (.int .u8 (0)) } := nrf rfl
theorem T_124 : T 124 = { kd := .array 256 5, size := 256, bytes := 256, zero := List.replicate 256 (.int .u8 (0)) } := nrf rfl
theorem T_125 : T 125 = { kd := .struct [(0, 5), (1, 5)], size := 2, bytes := 2, zero := [.int .u8 (0), .int .u8 (0)] } := nrf rfl
theorem T_126 : T 126 = { kd := .struct [(0, 5), (1, 5)], size := 2, bytes := 2, zero := [.int .u8 (0), .int .u8 (0)] } := nrf rfl
theorem T_127 : T 127 = { kd := .array 16 126, size := 32, bytes := 32, zero := List.replicate 32 (.int .u8 (0)) } := nrf rfl
theorem T_128 : T 128 = { kd := .array 32 5, size := 32, bytes := 32, zero := List.replicate 32 (.int .u8 (0)) } := nrf rfl
theorem T_129 : T 129 = { kd := .array 64 5, size := 64, bytes := 64, zero := List.replicate 64 (.int .u8 (0)) } := nrf rfl
theorem T_stood57 : Tryd.prog.stoodInHeld 57 = false := by kernel_rfl
theorem T_stood59 : Tryd.prog.stoodInHeld 59 = false := by kernel_rfl
theorem T_stood61 : Tryd.prog.stoodInHeld 61 = false := by kernel_rfl
theorem T_stood63 : Tryd.prog.stoodInHeld 63 = false := by kernel_rfl
theorem T_guard57 : Tryd.prog.eqGuardType Tryd.prog.depth 57 = false := by kernel_rfl
theorem T_eq57 : EqOk Tryd.prog 57 (T 57) := by
  intro _
  refine ⟨T_guard57, fun xs ys hx hy w => ?_⟩
  obtain ⟨a0, al0, rfl, hx0⟩ := km_int hx
  obtain ⟨a1, al1, rfl, hx1⟩ := km_int hx0
  obtain ⟨a2, al2, rfl, hx2⟩ := km_bool hx1
  obtain ⟨a3, al3, rfl, hx3⟩ := km_int hx2
  obtain rfl := km_nil hx3
  obtain ⟨b0, bl0, rfl, hy0⟩ := km_int hy
  obtain ⟨b1, bl1, rfl, hy1⟩ := km_int hy0
  obtain ⟨b2, bl2, rfl, hy2⟩ := km_bool hy1
  obtain ⟨b3, bl3, rfl, hy3⟩ := km_int hy2
  obtain rfl := km_nil hy3
  clear hx hy hx0 hy0 hx1 hy1 hx2 hy2 hx3 hy3
  have hs0 := T_stood57
  go_simp
  simp only [eqV]
  (repeat' split) <;> simp_all
theorem T_guard59 : Tryd.prog.eqGuardType Tryd.prog.depth 59 = false := by kernel_rfl
theorem T_eq59 : EqOk Tryd.prog 59 (T 59) := by
  intro _
  refine ⟨T_guard59, fun xs ys hx hy w => ?_⟩
  obtain ⟨a0, al0, rfl, hx0⟩ := km_int hx
  obtain ⟨a1, al1, rfl, hx1⟩ := km_int hx0
  obtain ⟨a2, al2, rfl, hx2⟩ := km_bool hx1
  obtain ⟨a3, al3, rfl, hx3⟩ := km_int hx2
  obtain ⟨a4, al4, rfl, hx4⟩ := km_int hx3
  obtain rfl := km_nil hx4
  obtain ⟨b0, bl0, rfl, hy0⟩ := km_int hy
  obtain ⟨b1, bl1, rfl, hy1⟩ := km_int hy0
  obtain ⟨b2, bl2, rfl, hy2⟩ := km_bool hy1
  obtain ⟨b3, bl3, rfl, hy3⟩ := km_int hy2
  obtain ⟨b4, bl4, rfl, hy4⟩ := km_int hy3
  obtain rfl := km_nil hy4
  clear hx hy hx0 hy0 hx1 hy1 hx2 hy2 hx3 hy3 hx4 hy4
  have hs0 := T_stood57
  have hs1 := T_stood59
  go_simp
  simp only [eqV]
  (repeat' split) <;> simp_all
theorem T_guard61 : Tryd.prog.eqGuardType Tryd.prog.depth 61 = false := by kernel_rfl
theorem T_eq61 : EqOk Tryd.prog 61 (T 61) := by
  intro _
  refine ⟨T_guard61, fun xs ys hx hy w => ?_⟩
  obtain ⟨a0, al0, rfl, hx0⟩ := km_int hx
  obtain ⟨a1, al1, rfl, hx1⟩ := km_int hx0
  obtain ⟨a2, al2, rfl, hx2⟩ := km_bool hx1
  obtain ⟨a3, al3, rfl, hx3⟩ := km_int hx2
  obtain rfl := km_nil hx3
  obtain ⟨b0, bl0, rfl, hy0⟩ := km_int hy
  obtain ⟨b1, bl1, rfl, hy1⟩ := km_int hy0
  obtain ⟨b2, bl2, rfl, hy2⟩ := km_bool hy1
  obtain ⟨b3, bl3, rfl, hy3⟩ := km_int hy2
  obtain rfl := km_nil hy3
  clear hx hy hx0 hy0 hx1 hy1 hx2 hy2 hx3 hy3
  have hs0 := T_stood61
  go_simp
  simp only [eqV]
  (repeat' split) <;> simp_all
theorem T_guard63 : Tryd.prog.eqGuardType Tryd.prog.depth 63 = false := by kernel_rfl
theorem T_eq63 : EqOk Tryd.prog 63 (T 63) := by
  intro _
  refine ⟨T_guard63, fun xs ys hx hy w => ?_⟩
  obtain ⟨a0, al0, rfl, hx0⟩ := km_int hx
  obtain ⟨a1, al1, rfl, hx1⟩ := km_int hx0
  obtain ⟨a2, al2, rfl, hx2⟩ := km_bool hx1
  obtain ⟨a3, al3, rfl, hx3⟩ := km_int hx2
  obtain ⟨a4, al4, rfl, hx4⟩ := km_int hx3
  obtain rfl := km_nil hx4
  obtain ⟨b0, bl0, rfl, hy0⟩ := km_int hy
  obtain ⟨b1, bl1, rfl, hy1⟩ := km_int hy0
  obtain ⟨b2, bl2, rfl, hy2⟩ := km_bool hy1
  obtain ⟨b3, bl3, rfl, hy3⟩ := km_int hy2
  obtain ⟨b4, bl4, rfl, hy4⟩ := km_int hy3
  obtain rfl := km_nil hy4
  clear hx hy hx0 hy0 hx1 hy1 hx2 hy2 hx3 hy3 hx4 hy4
  have hs0 := T_stood61
  have hs1 := T_stood63
  go_simp
  simp only [eqV]
  (repeat' split) <;> simp_all
theorem T_none : ∀ t, 143 ≤ t → (T t).kd = .none := by
  intro t ht
  unfold T
  split <;> first | (exact absurd ht (by decide)) | rfl
theorem T_eqs : ∀ t, EqOk Tryd.prog t (T t) := by
  intro t
  by_cases h : (T t).eqk = []
  · exact eqOk_nil h
  · have : t = 57 ∨ t = 59 ∨ t = 61 ∨ t = 63 := by
      unfold T at h
      split at h <;> first | (exact absurd rfl h) | simp
    rcases this with rfl | rfl | rfl | rfl
    · exact T_eq57
    · exact T_eq59
    · exact T_eq61
    · exact T_eq63
theorem T_tt : TTOk Tryd.prog T := ttok 143 T_ok T_none T_eqs
theorem mixed : Tryd.prog.follows .mixedOrders = true := by kernel_rfl
end Go.Pc
