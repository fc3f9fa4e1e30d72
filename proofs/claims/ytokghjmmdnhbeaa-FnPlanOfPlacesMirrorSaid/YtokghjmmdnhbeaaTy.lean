/- The types of this translation, as the abstract logic wants them: printed by a program out of the dump, checked against the loaded program. -/
import Derived.Test.YtokghjmmdnhbeaaAlx
import Derived.Test.YtokghjmmdnhbeaaProg
import Derived.KernelRfl
namespace Go.Pc
open Go Go.Proofs

def T : TypeId → Ty
  | 2 => { kd := .intk .i64, size := 1, bytes := 8, zero := [.int .i64 (0)] }
  | 3 => { kd := .intk .i64, size := 1, bytes := 8, zero := [.int .i64 (0)] }
  | 4 => { kd := .bool, size := 1, bytes := 1, zero := [.bool false] }
  | 5 => { kd := .intk .u8, size := 1, bytes := 1, zero := [.int .u8 (0)] }
  | 9 => { kd := .str, size := 1, bytes := 16, zero := [.string ByteArray.empty] }
  | 12 => { kd := .intk .u64, size := 1, bytes := 8, zero := [.int .u64 (0)] }
  | 17 => { kd := .flat, size := 1, bytes := 8, zero := [.pointer none] }
  | 21 => { kd := .intk .i32, size := 1, bytes := 4, zero := [.int .i32 (0)] }
  | 22 => { kd := .slice 5, size := 1, bytes := 24, zero := [.slice none 0 0] }
  | 23 => { kd := .slice 62, size := 1, bytes := 24, zero := [.slice none 0 0] }
  | 24 => { kd := .struct [(0, 3), (1, 3), (2, 23)], size := 3, bytes := 40, zero := [.int .i64 (0), .int .i64 (0), .slice none 0 0] }
  | 25 => { kd := .struct [(0, 3), (1, 3), (2, 23)], size := 3, bytes := 40, zero := [.int .i64 (0), .int .i64 (0), .slice none 0 0] }
  | 26 => { kd := .slice 28, size := 1, bytes := 24, zero := [.slice none 0 0] }
  | 27 => { kd := .struct [(0, 3), (1, 3), (2, 3), (3, 4), (4, 26)], size := 5, bytes := 56, zero := [.int .i64 (0), .int .i64 (0), .int .i64 (0), .bool false, .slice none 0 0] }
  | 28 => { kd := .struct [(0, 3), (1, 3), (2, 3), (3, 4), (4, 26)], size := 5, bytes := 56, zero := [.int .i64 (0), .int .i64 (0), .int .i64 (0), .bool false, .slice none 0 0] }
  | 31 => { kd := .slice 46, size := 1, bytes := 24, zero := [.slice none 0 0] }
  | 43 => { kd := .struct [(0, 3), (1, 3), (2, 3), (3, 3)], size := 4, bytes := 32, zero := [.int .i64 (0), .int .i64 (0), .int .i64 (0), .int .i64 (0)] }
  | 44 => { kd := .struct [(0, 3), (1, 3), (2, 3), (3, 3)], size := 4, bytes := 32, zero := [.int .i64 (0), .int .i64 (0), .int .i64 (0), .int .i64 (0)], eqk := [.int, .int, .int, .int] }
  | 45 => { kd := .struct [(0, 3), (1, 4), (2, 44)], size := 6, bytes := 48, zero := [.int .i64 (0), .bool false, .int .i64 (0), .int .i64 (0), .int .i64 (0), .int .i64 (0)] }
  | 46 => { kd := .struct [(0, 3), (1, 4), (2, 44)], size := 6, bytes := 48, zero := [.int .i64 (0), .bool false, .int .i64 (0), .int .i64 (0), .int .i64 (0), .int .i64 (0)], eqk := [.int, .bool, .int, .int, .int, .int] }
  | 48 => { kd := .flat, size := 1, bytes := 8, zero := [.pointer none] }
  | 50 => { kd := .slice 53, size := 1, bytes := 24, zero := [.slice none 0 0] }
  | 52 => { kd := .struct [(0, 28), (5, 44)], size := 9, bytes := 88, zero := [.int .i64 (0), .int .i64 (0), .int .i64 (0), .bool false, .slice none 0 0, .int .i64 (0), .int .i64 (0), .int .i64 (0), .int .i64 (0)] }
  | 53 => { kd := .struct [(0, 28), (5, 44)], size := 9, bytes := 88, zero := [.int .i64 (0), .int .i64 (0), .int .i64 (0), .bool false, .slice none 0 0, .int .i64 (0), .int .i64 (0), .int .i64 (0), .int .i64 (0)] }
  | 61 => { kd := .struct [(0, 3), (1, 3), (2, 4), (3, 3)], size := 4, bytes := 32, zero := [.int .i64 (0), .int .i64 (0), .bool false, .int .i64 (0)] }
  | 62 => { kd := .struct [(0, 3), (1, 3), (2, 4), (3, 3)], size := 4, bytes := 32, zero := [.int .i64 (0), .int .i64 (0), .bool false, .int .i64 (0)], eqk := [.int, .int, .bool, .int] }
  | 64 => { kd := .slice 3, size := 1, bytes := 24, zero := [.slice none 0 0] }
  | 66 => { kd := .slice 44, size := 1, bytes := 24, zero := [.slice none 0 0] }
  | 71 => { kd := .struct [(0, 22), (1, 3)], size := 2, bytes := 32, zero := [.slice none 0 0, .int .i64 (0)] }
  | 72 => { kd := .struct [(0, 22), (1, 3)], size := 2, bytes := 32, zero := [.slice none 0 0, .int .i64 (0)] }
  | 87 => { kd := .flat, size := 1, bytes := 8, zero := [.pointer none] }
  | 92 => { kd := .slice 94, size := 1, bytes := 24, zero := [.slice none 0 0] }
  | 93 => { kd := .struct [(0, 3), (1, 3)], size := 2, bytes := 16, zero := [.int .i64 (0), .int .i64 (0)] }
  | 94 => { kd := .struct [(0, 3), (1, 3)], size := 2, bytes := 16, zero := [.int .i64 (0), .int .i64 (0)], eqk := [.int, .int] }
  | 105 => { kd := .intk .u32, size := 1, bytes := 4, zero := [.int .u32 (0)] }
  | 109 => { kd := .flat, size := 1, bytes := 8, zero := [.pointer none] }
  | _ => {}

theorem T_ok : (List.range 115).all (fun t => tyB Try.prog t (T t)) = true := by kernel_rfl

theorem T_2 : T 2 = { kd := .intk .i64, size := 1, bytes := 8, zero := [.int .i64 (0)] } := nrf rfl
theorem T_3 : T 3 = { kd := .intk .i64, size := 1, bytes := 8, zero := [.int .i64 (0)] } := nrf rfl
theorem T_4 : T 4 = { kd := .bool, size := 1, bytes := 1, zero := [.bool false] } := nrf rfl
theorem T_5 : T 5 = { kd := .intk .u8, size := 1, bytes := 1, zero := [.int .u8 (0)] } := nrf rfl
theorem T_9 : T 9 = { kd := .str, size := 1, bytes := 16, zero := [.string ByteArray.empty] } := nrf rfl
theorem T_12 : T 12 = { kd := .intk .u64, size := 1, bytes := 8, zero := [.int .u64 (0)] } := nrf rfl
theorem T_17 : T 17 = { kd := .flat, size := 1, bytes := 8, zero := [.pointer none] } := nrf rfl
theorem T_21 : T 21 = { kd := .intk .i32, size := 1, bytes := 4, zero := [.int .i32 (0)] } := nrf rfl
theorem T_22 : T 22 = { kd := .slice 5, size := 1, bytes := 24, zero := [.slice none 0 0] } := nrf rfl
theorem T_23 : T 23 = { kd := .slice 62, size := 1, bytes := 24, zero := [.slice none 0 0] } := nrf rfl
theorem T_24 : T 24 = { kd := .struct [(0, 3), (1, 3), (2, 23)], size := 3, bytes := 40, zero := [.int .i64 (0), .int .i64 (0), .slice none 0 0] } := nrf rfl
theorem T_25 : T 25 = { kd := .struct [(0, 3), (1, 3), (2, 23)], size := 3, bytes := 40, zero := [.int .i64 (0), .int .i64 (0), .slice none 0 0] } := nrf rfl
theorem T_26 : T 26 = { kd := .slice 28, size := 1, bytes := 24, zero := [.slice none 0 0] } := nrf rfl
theorem T_27 : T 27 = { kd := .struct [(0, 3), (1, 3), (2, 3), (3, 4), (4, 26)], size := 5, bytes := 56, zero := [.int .i64 (0), .int .i64 (0), .int .i64 (0), .bool false, .slice none 0 0] } := nrf rfl
theorem T_28 : T 28 = { kd := .struct [(0, 3), (1, 3), (2, 3), (3, 4), (4, 26)], size := 5, bytes := 56, zero := [.int .i64 (0), .int .i64 (0), .int .i64 (0), .bool false, .slice none 0 0] } := nrf rfl
theorem T_31 : T 31 = { kd := .slice 46, size := 1, bytes := 24, zero := [.slice none 0 0] } := nrf rfl
theorem T_43 : T 43 = { kd := .struct [(0, 3), (1, 3), (2, 3), (3, 3)], size := 4, bytes := 32, zero := [.int .i64 (0), .int .i64 (0), .int .i64 (0), .int .i64 (0)] } := nrf rfl
theorem T_44 : T 44 = { kd := .struct [(0, 3), (1, 3), (2, 3), (3, 3)], size := 4, bytes := 32, zero := [.int .i64 (0), .int .i64 (0), .int .i64 (0), .int .i64 (0)], eqk := [.int, .int, .int, .int] } := nrf rfl
theorem T_45 : T 45 = { kd := .struct [(0, 3), (1, 4), (2, 44)], size := 6, bytes := 48, zero := [.int .i64 (0), .bool false, .int .i64 (0), .int .i64 (0), .int .i64 (0), .int .i64 (0)] } := nrf rfl
theorem T_46 : T 46 = { kd := .struct [(0, 3), (1, 4), (2, 44)], size := 6, bytes := 48, zero := [.int .i64 (0), .bool false, .int .i64 (0), .int .i64 (0), .int .i64 (0), .int .i64 (0)], eqk := [.int, .bool, .int, .int, .int, .int] } := nrf rfl
theorem T_48 : T 48 = { kd := .flat, size := 1, bytes := 8, zero := [.pointer none] } := nrf rfl
theorem T_50 : T 50 = { kd := .slice 53, size := 1, bytes := 24, zero := [.slice none 0 0] } := nrf rfl
theorem T_52 : T 52 = { kd := .struct [(0, 28), (5, 44)], size := 9, bytes := 88, zero := [.int .i64 (0), .int .i64 (0), .int .i64 (0), .bool false, .slice none 0 0, .int .i64 (0), .int .i64 (0), .int .i64 (0), .int .i64 (0)] } := nrf rfl
theorem T_53 : T 53 = { kd := .struct [(0, 28), (5, 44)], size := 9, bytes := 88, zero := [.int .i64 (0), .int .i64 (0), .int .i64 (0), .bool false, .slice none 0 0, .int .i64 (0), .int .i64 (0), .int .i64 (0), .int .i64 (0)] } := nrf rfl
theorem T_61 : T 61 = { kd := .struct [(0, 3), (1, 3), (2, 4), (3, 3)], size := 4, bytes := 32, zero := [.int .i64 (0), .int .i64 (0), .bool false, .int .i64 (0)] } := nrf rfl
theorem T_62 : T 62 = { kd := .struct [(0, 3), (1, 3), (2, 4), (3, 3)], size := 4, bytes := 32, zero := [.int .i64 (0), .int .i64 (0), .bool false, .int .i64 (0)], eqk := [.int, .int, .bool, .int] } := nrf rfl
theorem T_64 : T 64 = { kd := .slice 3, size := 1, bytes := 24, zero := [.slice none 0 0] } := nrf rfl
theorem T_66 : T 66 = { kd := .slice 44, size := 1, bytes := 24, zero := [.slice none 0 0] } := nrf rfl
theorem T_71 : T 71 = { kd := .struct [(0, 22), (1, 3)], size := 2, bytes := 32, zero := [.slice none 0 0, .int .i64 (0)] } := nrf rfl
theorem T_72 : T 72 = { kd := .struct [(0, 22), (1, 3)], size := 2, bytes := 32, zero := [.slice none 0 0, .int .i64 (0)] } := nrf rfl
theorem T_87 : T 87 = { kd := .flat, size := 1, bytes := 8, zero := [.pointer none] } := nrf rfl
theorem T_92 : T 92 = { kd := .slice 94, size := 1, bytes := 24, zero := [.slice none 0 0] } := nrf rfl
theorem T_93 : T 93 = { kd := .struct [(0, 3), (1, 3)], size := 2, bytes := 16, zero := [.int .i64 (0), .int .i64 (0)] } := nrf rfl
theorem T_94 : T 94 = { kd := .struct [(0, 3), (1, 3)], size := 2, bytes := 16, zero := [.int .i64 (0), .int .i64 (0)], eqk := [.int, .int] } := nrf rfl
theorem T_105 : T 105 = { kd := .intk .u32, size := 1, bytes := 4, zero := [.int .u32 (0)] } := nrf rfl
theorem T_109 : T 109 = { kd := .flat, size := 1, bytes := 8, zero := [.pointer none] } := nrf rfl
theorem T_stood44 : Try.prog.stoodInHeld 44 = false := by kernel_rfl
theorem T_stood46 : Try.prog.stoodInHeld 46 = false := by kernel_rfl
theorem T_stood62 : Try.prog.stoodInHeld 62 = false := by kernel_rfl
theorem T_stood94 : Try.prog.stoodInHeld 94 = false := by kernel_rfl
theorem T_guard44 : Try.prog.eqGuardType Try.prog.depth 44 = false := by kernel_rfl
theorem T_eq44 : EqOk Try.prog 44 (T 44) := by
  intro _
  refine ⟨T_guard44, fun xs ys hx hy w => ?_⟩
  obtain ⟨a0, al0, rfl, hx0⟩ := km_int hx
  obtain ⟨a1, al1, rfl, hx1⟩ := km_int hx0
  obtain ⟨a2, al2, rfl, hx2⟩ := km_int hx1
  obtain ⟨a3, al3, rfl, hx3⟩ := km_int hx2
  obtain rfl := km_nil hx3
  obtain ⟨b0, bl0, rfl, hy0⟩ := km_int hy
  obtain ⟨b1, bl1, rfl, hy1⟩ := km_int hy0
  obtain ⟨b2, bl2, rfl, hy2⟩ := km_int hy1
  obtain ⟨b3, bl3, rfl, hy3⟩ := km_int hy2
  obtain rfl := km_nil hy3
  clear hx hy hx0 hy0 hx1 hy1 hx2 hy2 hx3 hy3
  have hs0 := T_stood44
  go_simp
  simp only [eqV]
  (repeat' split) <;> simp_all
theorem T_guard46 : Try.prog.eqGuardType Try.prog.depth 46 = false := by kernel_rfl
theorem T_eq46 : EqOk Try.prog 46 (T 46) := by
  intro _
  refine ⟨T_guard46, fun xs ys hx hy w => ?_⟩
  obtain ⟨a0, al0, rfl, hx0⟩ := km_int hx
  obtain ⟨a1, al1, rfl, hx1⟩ := km_bool hx0
  obtain ⟨a2, al2, rfl, hx2⟩ := km_int hx1
  obtain ⟨a3, al3, rfl, hx3⟩ := km_int hx2
  obtain ⟨a4, al4, rfl, hx4⟩ := km_int hx3
  obtain ⟨a5, al5, rfl, hx5⟩ := km_int hx4
  obtain rfl := km_nil hx5
  obtain ⟨b0, bl0, rfl, hy0⟩ := km_int hy
  obtain ⟨b1, bl1, rfl, hy1⟩ := km_bool hy0
  obtain ⟨b2, bl2, rfl, hy2⟩ := km_int hy1
  obtain ⟨b3, bl3, rfl, hy3⟩ := km_int hy2
  obtain ⟨b4, bl4, rfl, hy4⟩ := km_int hy3
  obtain ⟨b5, bl5, rfl, hy5⟩ := km_int hy4
  obtain rfl := km_nil hy5
  clear hx hy hx0 hy0 hx1 hy1 hx2 hy2 hx3 hy3 hx4 hy4 hx5 hy5
  have hs0 := T_stood44
  have hs1 := T_stood46
  go_simp
  simp only [eqV]
  (repeat' split) <;> simp_all
theorem T_guard62 : Try.prog.eqGuardType Try.prog.depth 62 = false := by kernel_rfl
theorem T_eq62 : EqOk Try.prog 62 (T 62) := by
  intro _
  refine ⟨T_guard62, fun xs ys hx hy w => ?_⟩
  obtain ⟨a0, al0, rfl, hx0⟩ := km_int hx
  obtain ⟨a1, al1, rfl, hx1⟩ := km_int hx0
  obtain ⟨a2, al2, rfl, hx2⟩ := km_bool hx1
  obtain ⟨a3, al3, rfl, hx3⟩ := km_int hx2
  obtain rfl := km_nil hx3
  obtain ⟨b0, bl0, rfl, hy0⟩ := km_int hy
  obtain ⟨b1, bl1, rfl, hy1⟩ := km_int hy0
  obtain ⟨b2, bl2, rfl, hy2⟩ := km_bool hy1
  obtain ⟨b3, bl3, rfl, hy3⟩ := km_int hy2
  obtain rfl := km_nil hy3
  clear hx hy hx0 hy0 hx1 hy1 hx2 hy2 hx3 hy3
  have hs0 := T_stood62
  go_simp
  simp only [eqV]
  (repeat' split) <;> simp_all
theorem T_guard94 : Try.prog.eqGuardType Try.prog.depth 94 = false := by kernel_rfl
theorem T_eq94 : EqOk Try.prog 94 (T 94) := by
  intro _
  refine ⟨T_guard94, fun xs ys hx hy w => ?_⟩
  obtain ⟨a0, al0, rfl, hx0⟩ := km_int hx
  obtain ⟨a1, al1, rfl, hx1⟩ := km_int hx0
  obtain rfl := km_nil hx1
  obtain ⟨b0, bl0, rfl, hy0⟩ := km_int hy
  obtain ⟨b1, bl1, rfl, hy1⟩ := km_int hy0
  obtain rfl := km_nil hy1
  clear hx hy hx0 hy0 hx1 hy1
  have hs0 := T_stood94
  go_simp
  simp only [eqV]
  (repeat' split) <;> simp_all
theorem T_none : ∀ t, 115 ≤ t → (T t).kd = .none := by
  intro t ht
  unfold T
  split <;> first | (exact absurd ht (by decide)) | rfl
theorem T_eqs : ∀ t, EqOk Try.prog t (T t) := by
  intro t
  by_cases h : (T t).eqk = []
  · exact eqOk_nil h
  · have : t = 44 ∨ t = 46 ∨ t = 62 ∨ t = 94 := by
      unfold T at h
      split at h <;> first | (exact absurd rfl h) | simp
    rcases this with rfl | rfl | rfl | rfl
    · exact T_eq44
    · exact T_eq46
    · exact T_eq62
    · exact T_eq94
theorem T_tt : TTOk Try.prog T := ttok 115 T_ok T_none T_eqs
theorem mixed : Try.prog.follows .mixedOrders = true := by kernel_rfl
end Go.Pc
