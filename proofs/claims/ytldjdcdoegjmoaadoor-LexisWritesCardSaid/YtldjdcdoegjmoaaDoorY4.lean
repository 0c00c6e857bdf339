import Derived.Test.YtldjdcdoegjmoaaDoorY1
import Derived.Test.YtldjdcdoegjmoaaDoorY3
namespace Go.Proofs.YtldjdcdoegjmoaaDoor.P
open Go.RowKit Go.Proofs.YtldjdcdoegjmoaaDoorW.PrintWords Go.Proofs.YtldjdcdoegjmoaaDoorW.PrintLast Go.Proofs.YtldjdcdoegjmoaaDoorW.PrintMore
set_option linter.unusedVariables false
set_option linter.unusedSimpArgs false
attribute [local go_sem high] eqA26
def lexis_right.j0 : Nat → Int → Bool → Int → Int → Int → ByteArray → Bool → Int → Int → Int → Int → Int → Int → Int → Int → Int → ByteArray → Bool → Int → Int → Int → Int → Int → Int → Option (Bool)
  | 0, _, _, _, _, _, _, _, _, _, _, _, _, _, _, _, _, _, _, _, _, _, _, _, _ => none
  | k + 1, x9, x21, x114000, x114001, x114002, x114003, x114004, x114005, x114006, x114007, x114008, x114009, x114010, x115000, x115001, x115002, x115003, x115004, x115005, x115006, x115007, x115008, x115009, x115010 => if x21 = true then (if (x115000 == 0 && (x115001 == 0 && (x115002 == 0 && (!x115004 && ((x115005 == 0 && (x115006 == 0 && (x115007 == 0 && (x115008 == 0)))) && (x115009 == 0 && (x115010 == 0))))))) = true then ((lexis_ownName.f k x114003).bind fun t116 => (some t116)) else (some false)) else (if x9 = 9 then (if (x115000 == 0 && (x115001 == 0 && (x115002 == 0 && (x115003.toList == ([] : List UInt8) && (!x115004 && ((x115005 == 0 && (x115006 == 0 && (x115007 == 0 && (x115008 == 0)))))))))) = true then (if x114009 ≥ 0 then (if x114009 ≤ 255 then (if x114010 = (-1) then (some true) else (if x114010 ≥ x114009 then (some (decide (x114010 ≤ 255))) else (some false))) else (some false)) else (some false)) else (some false)) else (if x9 = 14 then (some (x115000 == 0 && (x115001 == 0 && (x115002 == 0 && ((x115005 == 0 && (x115006 == 0 && (x115007 == 0 && (x115008 == 0)))) && (x115009 == 0 && (x115010 == 0))))))) else (if x9 = 15 then (some (x115000 == 0 && (x115001 == 0 && (x115002 == 0 && (x115003.toList == ([] : List UInt8) && (!x115004 && (x115009 == 0 && (x115010 == 0)))))))) else (if x114000 ≥ 0 then (if x114000 ≤ 17 then (some (x115000 == 0 && (x115001 == 0 && (x115002 == 0 && (x115003.toList == ([] : List UInt8) && (!x115004 && ((x115005 == 0 && (x115006 == 0 && (x115007 == 0 && (x115008 == 0)))) && (x115009 == 0 && (x115010 == 0))))))))) else (some false)) else (some false)))))
def lexis_right.f (k : Nat) (a0_0 : Int) (a0_1 : Int) (a0_2 : Int) (a0_3 : ByteArray) (a0_4 : Bool) (a0_5 : Int) (a0_6 : Int) (a0_7 : Int) (a0_8 : Int) (a0_9 : Int) (a0_10 : Int) : Option (Bool) := if a0_0 = 1 then (if (!a0_4 && ((a0_5 == 0 && (a0_6 == 0 && (a0_7 == 0 && (a0_8 == 0)))) && (a0_9 == 0 && (a0_10 == 0)))) = true then ((lexis_Name.f k a0_3).bind fun t115 => (some t115)) else (some false)) else (if a0_0 = 16 then (lexis_right.j0 k a0_0 (a0_0 == 16) a0_0 0 0 a0_3 a0_4 a0_5 a0_6 a0_7 a0_8 a0_9 a0_10 0 0 0 a0_3 a0_4 a0_5 a0_6 a0_7 a0_8 a0_9 a0_10) else (lexis_right.j0 k a0_0 (a0_0 == 17) a0_0 0 0 a0_3 a0_4 a0_5 a0_6 a0_7 a0_8 a0_9 a0_10 0 0 0 a0_3 a0_4 a0_5 a0_6 a0_7 a0_8 a0_9 a0_10))
theorem lexis_right.mono_l : ∀ k, (∀ y0 y1 y2 y3 y4 y5 y6 y7 y8 y9 y10 y11 y12 y13 y14 y15 y16 y17 y18 y19 y20 y21 y22 y23, LeO (lexis_right.j0 k y0 y1 y2 y3 y4 y5 y6 y7 y8 y9 y10 y11 y12 y13 y14 y15 y16 y17 y18 y19 y20 y21 y22 y23) (lexis_right.j0 (k + 1) y0 y1 y2 y3 y4 y5 y6 y7 y8 y9 y10 y11 y12 y13 y14 y15 y16 y17 y18 y19 y20 y21 y22 y23))
  | 0 => fun _ _ _ _ _ _ _ _ _ _ _ _ _ _ _ _ _ _ _ _ _ _ _ _ r h => by simp [lexis_right.j0] at h
  | k + 1 => by
    have ih0 := lexis_right.mono_l k
    · intro y0 y1 y2 y3 y4 y5 y6 y7 y8 y9 y10 y11 y12 y13 y14 y15 y16 y17 y18 y19 y20 y21 y22 y23
      unfold lexis_right.j0
      repeat' first
      | (with_reducible exact ih0 _ _ _ _ _ _ _ _ _ _ _ _ _ _ _ _ _ _ _ _ _ _ _ _)
      | (with_reducible exact lexis_Name.mono _ _)
      | (with_reducible exact lexis_ownName.mono _ _)
      | (with_reducible exact LeO.refl _)
      | (with_reducible exact LeO.none _)
      | (with_reducible refine LeO.ite ?_ ?_)
      | (with_reducible refine LeO.bind ?_ (fun _ => ?_))
      | exact ih0 _ _ _ _ _ _ _ _ _ _ _ _ _ _ _ _ _ _ _ _ _ _ _ _
      | exact lexis_Name.mono _ _
      | exact lexis_ownName.mono _ _
      | exact LeO.none _
      | refine LeO.ite ?_ ?_
      | refine LeO.bind ?_ (fun _ => ?_)
theorem lexis_right.mono : ∀ a0 a1 a2 a3 a4 a5 a6 a7 a8 a9 a10 k, LeO (lexis_right.f k a0 a1 a2 a3 a4 a5 a6 a7 a8 a9 a10) (lexis_right.f (k + 1) a0 a1 a2 a3 a4 a5 a6 a7 a8 a9 a10) := by
  intro a0 a1 a2 a3 a4 a5 a6 a7 a8 a9 a10 k
  have ih0 := lexis_right.mono_l k
  unfold lexis_right.f
  repeat' first
      | (with_reducible exact ih0 _ _ _ _ _ _ _ _ _ _ _ _ _ _ _ _ _ _ _ _ _ _ _ _)
      | (with_reducible exact lexis_Name.mono _ _)
      | (with_reducible exact lexis_ownName.mono _ _)
      | (with_reducible exact LeO.refl _)
      | (with_reducible exact LeO.none _)
      | (with_reducible refine LeO.ite ?_ ?_)
      | (with_reducible refine LeO.bind ?_ (fun _ => ?_))
      | exact ih0 _ _ _ _ _ _ _ _ _ _ _ _ _ _ _ _ _ _ _ _ _ _ _ _
      | exact lexis_Name.mono _ _
      | exact lexis_ownName.mono _ _
      | exact LeO.none _
      | refine LeO.ite ?_ ?_
      | refine LeO.bind ?_ (fun _ => ?_)
theorem lexis_right.below2 (w : World) (o1 o2 : Obj) : Below w.heap.size w ((w.alloc o1).alloc o2) :=
  ((Below.refl _ _).alloc (Nat.le_refl _) _).alloc (by simp) _
theorem lexis_right.below2d {w w' : World} {o1 o2 : Obj} (h : Drawn0 ((w.alloc o1).alloc o2) w') : Below w.heap.size w w' := by
  obtain ⟨n, rfl⟩ := h
  exact ⟨(lexis_right.below2 w o1 o2).os, (lexis_right.below2 w o1 o2).tape, (lexis_right.below2 w o1 o2).output, (lexis_right.below2 w o1 o2).size, (lexis_right.below2 w o1 o2).block⟩
set_option maxRecDepth 100000 in
set_option maxHeartbeats 2000000 in
theorem lexis_right.w1 (a1 a2 : Int) (a3 : ByteArray) (a4 : Bool) (a5 a6 a7 a8 a9 a10 : Int) (w : World) (k : Nat) (r : Bool) (hT : (!a4 && ((a5 == 0 && (a6 == 0 && (a7 == 0 && (a8 == 0)))) && (a9 == 0 && (a10 == 0)))) = true) (hr : lexis_Name.f k a3 = some r) :
    Calls Tryd.prog 19 #[.agg #[.int .i64 1, .int .i64 a1, .int .i64 a2, .string a3, .bool a4, .int .u64 a5, .int .u64 a6, .int .u64 a7, .int .u64 a8, .int .i64 a9, .int .i64 a10]] w fun e w' => e = .returned (.bool r) ∧ Below w.heap.size w w' := by
  go_enter Tryd.func19, Tryd.ntmps19
  go_wp2_with fail
  refine (lexis_Name.calls k a3 r _ hr).mono ?_
  rintro e W2 ⟨rfl, hb2⟩
  have hB := lexis_right.below2d hb2
  clear hb2
  go_wp2
  go_ret
  exact ⟨rfl, hB⟩
set_option maxRecDepth 100000 in
set_option maxHeartbeats 2000000 in
theorem lexis_right.w1f (a1 a2 : Int) (a3 : ByteArray) (a4 : Bool) (a5 a6 a7 a8 a9 a10 : Int) (w : World) (hT : (!a4 && ((a5 == 0 && (a6 == 0 && (a7 == 0 && (a8 == 0)))) && (a9 == 0 && (a10 == 0)))) = false) :
    Calls Tryd.prog 19 #[.agg #[.int .i64 1, .int .i64 a1, .int .i64 a2, .string a3, .bool a4, .int .u64 a5, .int .u64 a6, .int .u64 a7, .int .u64 a8, .int .i64 a9, .int .i64 a10]] w fun e w' => e = .returned (.bool false) ∧ Below w.heap.size w w' := by
  go_enter Tryd.func19, Tryd.ntmps19
  go_wp2
  go_ret
  exact ⟨rfl, lexis_right.below2 _ _ _⟩
set_option maxRecDepth 100000 in
set_option maxHeartbeats 2000000 in
theorem lexis_right.w16 (a1 a2 : Int) (a3 : ByteArray) (a4 : Bool) (a5 a6 a7 a8 a9 a10 : Int) (w : World) (k : Nat) (r : Bool) (hT : (!a4 && ((a5 == 0 && (a6 == 0 && (a7 == 0 && (a8 == 0)))) && (a9 == 0 && (a10 == 0)))) = true) (hr : lexis_ownName.f k a3 = some r) :
    Calls Tryd.prog 19 #[.agg #[.int .i64 16, .int .i64 a1, .int .i64 a2, .string a3, .bool a4, .int .u64 a5, .int .u64 a6, .int .u64 a7, .int .u64 a8, .int .i64 a9, .int .i64 a10]] w fun e w' => e = .returned (.bool r) ∧ Below w.heap.size w w' := by
  go_enter Tryd.func19, Tryd.ntmps19
  go_wp2_with fail
  refine (lexis_ownName.calls k a3 r _ hr).mono ?_
  rintro e W2 ⟨rfl, hb2⟩
  have hB := lexis_right.below2d hb2
  clear hb2
  go_wp2
  go_ret
  exact ⟨rfl, hB⟩
set_option maxRecDepth 100000 in
set_option maxHeartbeats 2000000 in
theorem lexis_right.w16f (a1 a2 : Int) (a3 : ByteArray) (a4 : Bool) (a5 a6 a7 a8 a9 a10 : Int) (w : World) (hT : (!a4 && ((a5 == 0 && (a6 == 0 && (a7 == 0 && (a8 == 0)))) && (a9 == 0 && (a10 == 0)))) = false) :
    Calls Tryd.prog 19 #[.agg #[.int .i64 16, .int .i64 a1, .int .i64 a2, .string a3, .bool a4, .int .u64 a5, .int .u64 a6, .int .u64 a7, .int .u64 a8, .int .i64 a9, .int .i64 a10]] w fun e w' => e = .returned (.bool false) ∧ Below w.heap.size w w' := by
  go_enter Tryd.func19, Tryd.ntmps19
  go_wp2
  go_ret
  exact ⟨rfl, lexis_right.below2 _ _ _⟩
set_option maxRecDepth 100000 in
set_option maxHeartbeats 2000000 in
theorem lexis_right.w17 (a1 a2 : Int) (a3 : ByteArray) (a4 : Bool) (a5 a6 a7 a8 a9 a10 : Int) (w : World) (k : Nat) (r : Bool) (hT : (!a4 && ((a5 == 0 && (a6 == 0 && (a7 == 0 && (a8 == 0)))) && (a9 == 0 && (a10 == 0)))) = true) (hr : lexis_ownName.f k a3 = some r) :
    Calls Tryd.prog 19 #[.agg #[.int .i64 17, .int .i64 a1, .int .i64 a2, .string a3, .bool a4, .int .u64 a5, .int .u64 a6, .int .u64 a7, .int .u64 a8, .int .i64 a9, .int .i64 a10]] w fun e w' => e = .returned (.bool r) ∧ Below w.heap.size w w' := by
  go_enter Tryd.func19, Tryd.ntmps19
  go_wp2_with fail
  refine (lexis_ownName.calls k a3 r _ hr).mono ?_
  rintro e W2 ⟨rfl, hb2⟩
  have hB := lexis_right.below2d hb2
  clear hb2
  go_wp2
  go_ret
  exact ⟨rfl, hB⟩
set_option maxRecDepth 100000 in
set_option maxHeartbeats 2000000 in
theorem lexis_right.w17f (a1 a2 : Int) (a3 : ByteArray) (a4 : Bool) (a5 a6 a7 a8 a9 a10 : Int) (w : World) (hT : (!a4 && ((a5 == 0 && (a6 == 0 && (a7 == 0 && (a8 == 0)))) && (a9 == 0 && (a10 == 0)))) = false) :
    Calls Tryd.prog 19 #[.agg #[.int .i64 17, .int .i64 a1, .int .i64 a2, .string a3, .bool a4, .int .u64 a5, .int .u64 a6, .int .u64 a7, .int .u64 a8, .int .i64 a9, .int .i64 a10]] w fun e w' => e = .returned (.bool false) ∧ Below w.heap.size w w' := by
  go_enter Tryd.func19, Tryd.ntmps19
  go_wp2
  go_ret
  exact ⟨rfl, lexis_right.below2 _ _ _⟩
set_option maxRecDepth 100000 in
set_option maxHeartbeats 2000000 in
theorem lexis_right.w9f (a1 a2 : Int) (a3 : ByteArray) (a4 : Bool) (a5 a6 a7 a8 a9 a10 : Int) (w : World) (hT : (a3.toList.isEmpty && (!a4 && (a5 == 0 && (a6 == 0 && (a7 == 0 && (a8 == 0)))))) = false) :
    Calls Tryd.prog 19 #[.agg #[.int .i64 9, .int .i64 a1, .int .i64 a2, .string a3, .bool a4, .int .u64 a5, .int .u64 a6, .int .u64 a7, .int .u64 a8, .int .i64 a9, .int .i64 a10]] w fun e w' => e = .returned (.bool false) ∧ Below w.heap.size w w' := by
  go_enter Tryd.func19, Tryd.ntmps19
  go_wp2
  go_ret
  exact ⟨rfl, lexis_right.below2 _ _ _⟩
set_option maxRecDepth 100000 in
set_option maxHeartbeats 2000000 in
theorem lexis_right.w9a (a1 a2 : Int) (a3 : ByteArray) (a4 : Bool) (a5 a6 a7 a8 a9 a10 : Int) (w : World) (hT : (a3.toList.isEmpty && (!a4 && (a5 == 0 && (a6 == 0 && (a7 == 0 && (a8 == 0)))))) = true) (h1 : decide (0 ≤ a9) = false) :
    Calls Tryd.prog 19 #[.agg #[.int .i64 9, .int .i64 a1, .int .i64 a2, .string a3, .bool a4, .int .u64 a5, .int .u64 a6, .int .u64 a7, .int .u64 a8, .int .i64 a9, .int .i64 a10]] w fun e w' => e = .returned (.bool false) ∧ Below w.heap.size w w' := by
  go_enter Tryd.func19, Tryd.ntmps19
  go_wp2
  go_ret
  exact ⟨rfl, lexis_right.below2 _ _ _⟩
set_option maxRecDepth 100000 in
set_option maxHeartbeats 2000000 in
theorem lexis_right.w9b (a1 a2 : Int) (a3 : ByteArray) (a4 : Bool) (a5 a6 a7 a8 a9 a10 : Int) (w : World) (hT : (a3.toList.isEmpty && (!a4 && (a5 == 0 && (a6 == 0 && (a7 == 0 && (a8 == 0)))))) = true) (h1 : decide (0 ≤ a9) = true) (h2 : decide (a9 ≤ 255) = false) :
    Calls Tryd.prog 19 #[.agg #[.int .i64 9, .int .i64 a1, .int .i64 a2, .string a3, .bool a4, .int .u64 a5, .int .u64 a6, .int .u64 a7, .int .u64 a8, .int .i64 a9, .int .i64 a10]] w fun e w' => e = .returned (.bool false) ∧ Below w.heap.size w w' := by
  go_enter Tryd.func19, Tryd.ntmps19
  go_wp2
  go_ret
  exact ⟨rfl, lexis_right.below2 _ _ _⟩
set_option maxRecDepth 100000 in
set_option maxHeartbeats 2000000 in
theorem lexis_right.w9c (a1 a2 : Int) (a3 : ByteArray) (a4 : Bool) (a5 a6 a7 a8 a9 a10 : Int) (w : World) (hT : (a3.toList.isEmpty && (!a4 && (a5 == 0 && (a6 == 0 && (a7 == 0 && (a8 == 0)))))) = true) (h1 : decide (0 ≤ a9) = true) (h2 : decide (a9 ≤ 255) = true) (h3 : (a10 == -1) = true) :
    Calls Tryd.prog 19 #[.agg #[.int .i64 9, .int .i64 a1, .int .i64 a2, .string a3, .bool a4, .int .u64 a5, .int .u64 a6, .int .u64 a7, .int .u64 a8, .int .i64 a9, .int .i64 a10]] w fun e w' => e = .returned (.bool true) ∧ Below w.heap.size w w' := by
  go_enter Tryd.func19, Tryd.ntmps19
  go_wp2
  go_ret
  exact ⟨rfl, lexis_right.below2 _ _ _⟩
set_option maxRecDepth 100000 in
set_option maxHeartbeats 2000000 in
theorem lexis_right.w9d (a1 a2 : Int) (a3 : ByteArray) (a4 : Bool) (a5 a6 a7 a8 a9 a10 : Int) (w : World) (hT : (a3.toList.isEmpty && (!a4 && (a5 == 0 && (a6 == 0 && (a7 == 0 && (a8 == 0)))))) = true) (h1 : decide (0 ≤ a9) = true) (h2 : decide (a9 ≤ 255) = true) (h3 : (a10 == -1) = false) (h4 : decide (a9 ≤ a10) = false) :
    Calls Tryd.prog 19 #[.agg #[.int .i64 9, .int .i64 a1, .int .i64 a2, .string a3, .bool a4, .int .u64 a5, .int .u64 a6, .int .u64 a7, .int .u64 a8, .int .i64 a9, .int .i64 a10]] w fun e w' => e = .returned (.bool false) ∧ Below w.heap.size w w' := by
  go_enter Tryd.func19, Tryd.ntmps19
  go_wp2
  go_ret
  exact ⟨rfl, lexis_right.below2 _ _ _⟩
set_option maxRecDepth 100000 in
set_option maxHeartbeats 2000000 in
theorem lexis_right.w9e (a1 a2 : Int) (a3 : ByteArray) (a4 : Bool) (a5 a6 a7 a8 a9 a10 : Int) (w : World) (hT : (a3.toList.isEmpty && (!a4 && (a5 == 0 && (a6 == 0 && (a7 == 0 && (a8 == 0)))))) = true) (h1 : decide (0 ≤ a9) = true) (h2 : decide (a9 ≤ 255) = true) (h3 : (a10 == -1) = false) (h4 : decide (a9 ≤ a10) = true) (b : Bool) (h5 : decide (a10 ≤ 255) = b) :
    Calls Tryd.prog 19 #[.agg #[.int .i64 9, .int .i64 a1, .int .i64 a2, .string a3, .bool a4, .int .u64 a5, .int .u64 a6, .int .u64 a7, .int .u64 a8, .int .i64 a9, .int .i64 a10]] w fun e w' => e = .returned (.bool b) ∧ Below w.heap.size w w' := by
  cases b
  · go_enter Tryd.func19, Tryd.ntmps19
    go_wp2
    go_ret
    exact ⟨rfl, lexis_right.below2 _ _ _⟩
  · go_enter Tryd.func19, Tryd.ntmps19
    go_wp2
    go_ret
    exact ⟨rfl, lexis_right.below2 _ _ _⟩
set_option maxRecDepth 100000 in
set_option maxHeartbeats 2000000 in
theorem lexis_right.w14 (a1 a2 : Int) (a3 : ByteArray) (a4 : Bool) (a5 a6 a7 a8 a9 a10 : Int) (w : World) (b : Bool) (hT : ((a5 == 0 && (a6 == 0 && (a7 == 0 && (a8 == 0)))) && (a9 == 0 && (a10 == 0))) = b) :
    Calls Tryd.prog 19 #[.agg #[.int .i64 14, .int .i64 a1, .int .i64 a2, .string a3, .bool a4, .int .u64 a5, .int .u64 a6, .int .u64 a7, .int .u64 a8, .int .i64 a9, .int .i64 a10]] w fun e w' => e = .returned (.bool b) ∧ Below w.heap.size w w' := by
  go_enter Tryd.func19, Tryd.ntmps19
  go_wp2
  go_ret
  exact ⟨by (rw [← hT]) <;> simp [Bool.and_assoc], lexis_right.below2 _ _ _⟩
set_option maxRecDepth 100000 in
set_option maxHeartbeats 2000000 in
theorem lexis_right.w15 (a1 a2 : Int) (a3 : ByteArray) (a4 : Bool) (a5 a6 a7 a8 a9 a10 : Int) (w : World) (b : Bool) (hT : (a3.toList.isEmpty && (!a4 && (a9 == 0 && (a10 == 0)))) = b) :
    Calls Tryd.prog 19 #[.agg #[.int .i64 15, .int .i64 a1, .int .i64 a2, .string a3, .bool a4, .int .u64 a5, .int .u64 a6, .int .u64 a7, .int .u64 a8, .int .i64 a9, .int .i64 a10]] w fun e w' => e = .returned (.bool b) ∧ Below w.heap.size w w' := by
  go_enter Tryd.func19, Tryd.ntmps19
  go_wp2
  go_ret
  exact ⟨by (rw [← hT]) <;> simp [Bool.and_assoc], lexis_right.below2 _ _ _⟩
set_option maxRecDepth 100000 in
set_option maxHeartbeats 2000000 in
theorem lexis_right.wda (a1 a2 : Int) (a3 : ByteArray) (a4 : Bool) (a5 a6 a7 a8 a9 a10 : Int) (w : World) (a0 : Int) (d1 : (a0 == 1) = false) (d2 : (a0 == 16) = false) (d3 : (a0 == 17) = false) (d4 : (a0 == 9) = false) (d5 : (a0 == 14) = false) (d6 : (a0 == 15) = false) (h1 : decide (0 ≤ a0) = false) :
    Calls Tryd.prog 19 #[.agg #[.int .i64 a0, .int .i64 a1, .int .i64 a2, .string a3, .bool a4, .int .u64 a5, .int .u64 a6, .int .u64 a7, .int .u64 a8, .int .i64 a9, .int .i64 a10]] w fun e w' => e = .returned (.bool false) ∧ Below w.heap.size w w' := by
  go_enter Tryd.func19, Tryd.ntmps19
  go_wp2
  go_ret
  exact ⟨rfl, lexis_right.below2 _ _ _⟩
set_option maxRecDepth 100000 in
set_option maxHeartbeats 2000000 in
theorem lexis_right.wdb (a1 a2 : Int) (a3 : ByteArray) (a4 : Bool) (a5 a6 a7 a8 a9 a10 : Int) (w : World) (a0 : Int) (d1 : (a0 == 1) = false) (d2 : (a0 == 16) = false) (d3 : (a0 == 17) = false) (d4 : (a0 == 9) = false) (d5 : (a0 == 14) = false) (d6 : (a0 == 15) = false) (h1 : decide (0 ≤ a0) = true) (h2 : decide (a0 ≤ 17) = false) :
    Calls Tryd.prog 19 #[.agg #[.int .i64 a0, .int .i64 a1, .int .i64 a2, .string a3, .bool a4, .int .u64 a5, .int .u64 a6, .int .u64 a7, .int .u64 a8, .int .i64 a9, .int .i64 a10]] w fun e w' => e = .returned (.bool false) ∧ Below w.heap.size w w' := by
  go_enter Tryd.func19, Tryd.ntmps19
  go_wp2
  go_ret
  exact ⟨rfl, lexis_right.below2 _ _ _⟩
set_option maxRecDepth 100000 in
set_option maxHeartbeats 2000000 in
theorem lexis_right.wdc (a1 a2 : Int) (a3 : ByteArray) (a4 : Bool) (a5 a6 a7 a8 a9 a10 : Int) (w : World) (a0 : Int) (d1 : (a0 == 1) = false) (d2 : (a0 == 16) = false) (d3 : (a0 == 17) = false) (d4 : (a0 == 9) = false) (d5 : (a0 == 14) = false) (d6 : (a0 == 15) = false) (h1 : decide (0 ≤ a0) = true) (h2 : decide (a0 ≤ 17) = true) (b : Bool) (hT : (a3.toList.isEmpty && (!a4 && ((a5 == 0 && (a6 == 0 && (a7 == 0 && (a8 == 0)))) && (a9 == 0 && (a10 == 0))))) = b) :
    Calls Tryd.prog 19 #[.agg #[.int .i64 a0, .int .i64 a1, .int .i64 a2, .string a3, .bool a4, .int .u64 a5, .int .u64 a6, .int .u64 a7, .int .u64 a8, .int .i64 a9, .int .i64 a10]] w fun e w' => e = .returned (.bool b) ∧ Below w.heap.size w w' := by
  go_enter Tryd.func19, Tryd.ntmps19
  go_wp2
  go_ret
  exact ⟨by (rw [← hT]) <;> simp [Bool.and_assoc], lexis_right.below2 _ _ _⟩
set_option maxRecDepth 100000 in
theorem lexis_right.calls (k : Nat) (a0_0 : Int) (a0_1 : Int) (a0_2 : Int) (a0_3 : ByteArray) (a0_4 : Bool) (a0_5 : Int) (a0_6 : Int) (a0_7 : Int) (a0_8 : Int) (a0_9 : Int) (a0_10 : Int) (r : Bool) (w : World) (h : lexis_right.f k a0_0 a0_1 a0_2 a0_3 a0_4 a0_5 a0_6 a0_7 a0_8 a0_9 a0_10 = some r) :
    Calls Tryd.prog 19 #[.agg #[.int .i64 a0_0, .int .i64 a0_1, .int .i64 a0_2, .string a0_3, .bool a0_4, .int .u64 a0_5, .int .u64 a0_6, .int .u64 a0_7, .int .u64 a0_8, .int .i64 a0_9, .int .i64 a0_10]] w fun e w' => e = .returned (.bool r) ∧ Below w.heap.size w w' := by
  generalize a0_1 = a1, a0_2 = a2, a0_3 = a3, a0_4 = a4, a0_5 = a5, a0_6 = a6, a0_7 = a7, a0_8 = a8, a0_9 = a9, a0_10 = a10 at *
  by_cases e1 : a0_0 = 1
  · subst e1
    unfold lexis_right.f at h
    rw [if_pos rfl] at h
    split at h
    · next hT =>
      obtain ⟨b, hb, hq⟩ := Option.bind_eq_some_iff.1 h
      obtain rfl := Option.some.inj hq
      exact lexis_right.w1 _ _ _ _ _ _ _ _ _ _ _ k b hT hb
    · next hT =>
      obtain rfl := Option.some.inj h
      exact lexis_right.w1f _ _ _ _ _ _ _ _ _ _ _ (by simpa using hT)
  have hj : ∃ x : Bool, (x = true ↔ (a0_0 = 16 ∨ a0_0 = 17)) ∧ lexis_right.j0 k a0_0 x a0_0 0 0 a3 a4 a5 a6 a7 a8 a9 a10 0 0 0 a3 a4 a5 a6 a7 a8 a9 a10 = some r := by
    unfold lexis_right.f at h
    rw [if_neg e1] at h
    split at h
    · next q => exact ⟨_, by simp [q], h⟩
    · next q => exact ⟨_, by simp [q], h⟩
  clear h
  obtain ⟨x, hx, h⟩ := hj
  obtain ⟨k, rfl⟩ : ∃ m, k = m + 1 := by
    cases k with
    | zero => simp [lexis_right.j0] at h
    | succ m => exact ⟨m, rfl⟩
  rw [lexis_right.j0.eq_def] at h
  simp only [beq_self_eq_true, Bool.true_and] at h
  by_cases e2 : x = true
  · rw [if_pos e2] at h
    split at h
    · next hT =>
      obtain ⟨b, hb, hq⟩ := Option.bind_eq_some_iff.1 h
      obtain rfl := Option.some.inj hq
      rcases hx.1 e2 with q | q <;> subst q
      · exact lexis_right.w16 _ _ _ _ _ _ _ _ _ _ _ k b hT hb
      · exact lexis_right.w17 _ _ _ _ _ _ _ _ _ _ _ k b hT hb
    · next hT =>
      obtain rfl := Option.some.inj h
      rcases hx.1 e2 with q | q <;> subst q
      · exact lexis_right.w16f _ _ _ _ _ _ _ _ _ _ _ (by simpa using hT)
      · exact lexis_right.w17f _ _ _ _ _ _ _ _ _ _ _ (by simpa using hT)
  rw [if_neg e2] at h
  have n1 : ¬ a0_0 = 16 := fun q => e2 (hx.2 (.inl q))
  have n2 : ¬ a0_0 = 17 := fun q => e2 (hx.2 (.inr q))
  clear hx e2
  by_cases e3 : a0_0 = 9
  · rw [if_pos e3] at h
    subst e3
    split at h
    · next hT =>
      split at h
      · next c1 =>
        split at h
        · next c2 =>
          split at h
          · next c3 =>
            obtain rfl := Option.some.inj h
            exact lexis_right.w9c _ _ _ _ _ _ _ _ _ _ _ (by simpa using hT) (decide_eq_true c1) (decide_eq_true c2) (by simp [c3])
          · next c3 =>
            split at h
            · next c4 =>
              obtain rfl := Option.some.inj h
              exact lexis_right.w9e _ _ _ _ _ _ _ _ _ _ _ (by simpa using hT) (decide_eq_true c1) (decide_eq_true c2) (by simp [c3]) (decide_eq_true c4) _ rfl
            · next c4 =>
              obtain rfl := Option.some.inj h
              exact lexis_right.w9d _ _ _ _ _ _ _ _ _ _ _ (by simpa using hT) (decide_eq_true c1) (decide_eq_true c2) (by simp [c3]) (decide_eq_false c4)
        · next c2 =>
          obtain rfl := Option.some.inj h
          exact lexis_right.w9b _ _ _ _ _ _ _ _ _ _ _ (by simpa using hT) (decide_eq_true c1) (decide_eq_false c2)
      · next c1 =>
        obtain rfl := Option.some.inj h
        exact lexis_right.w9a _ _ _ _ _ _ _ _ _ _ _ (by simpa using hT) (decide_eq_false c1)
    · next hT =>
      obtain rfl := Option.some.inj h
      exact lexis_right.w9f _ _ _ _ _ _ _ _ _ _ _ (by simpa using Bool.eq_false_iff.2 hT)
  rw [if_neg e3] at h
  by_cases e4 : a0_0 = 14
  · rw [if_pos e4] at h
    subst e4
    exact lexis_right.w14 _ _ _ _ _ _ _ _ _ _ _ r (by simpa using Option.some.inj h)
  rw [if_neg e4] at h
  by_cases e5 : a0_0 = 15
  · rw [if_pos e5] at h
    subst e5
    exact lexis_right.w15 _ _ _ _ _ _ _ _ _ _ _ r (by simpa using Option.some.inj h)
  rw [if_neg e5] at h
  have d1 : (a0_0 == 1) = false := by simp [e1]
  have d2 : (a0_0 == 16) = false := by simp [n1]
  have d3 : (a0_0 == 17) = false := by simp [n2]
  have d4 : (a0_0 == 9) = false := by simp [e3]
  have d5 : (a0_0 == 14) = false := by simp [e4]
  have d6 : (a0_0 == 15) = false := by simp [e5]
  split at h
  · next c1 =>
    split at h
    · next c2 => exact lexis_right.wdc _ _ _ _ _ _ _ _ _ _ _ a0_0 d1 d2 d3 d4 d5 d6 (decide_eq_true c1) (decide_eq_true c2) r (by simpa using Option.some.inj h)
    · next c2 =>
      obtain rfl := Option.some.inj h
      exact lexis_right.wdb _ _ _ _ _ _ _ _ _ _ _ a0_0 d1 d2 d3 d4 d5 d6 (decide_eq_true c1) (decide_eq_false c2)
  · next c1 =>
    obtain rfl := Option.some.inj h
    exact lexis_right.wda _ _ _ _ _ _ _ _ _ _ _ a0_0 d1 d2 d3 d4 d5 d6 (decide_eq_false c1)
end Go.Proofs.YtldjdcdoegjmoaaDoor.P
namespace Go.Proofs.YtldjdcdoegjmoaaDoor.P
open Go.RowKit Go.Proofs.YtldjdcdoegjmoaaDoorW.PrintWords Go.Proofs.YtldjdcdoegjmoaaDoorW.PrintLast Go.Proofs.YtldjdcdoegjmoaaDoorW.PrintMore
set_option linter.unusedVariables false
set_option linter.unusedSimpArgs false
def dowelref04_letter.f (a0 : Int) : Option (Bool) := if a0 ≥ 97 then (if a0 ≤ 122 then (some true) else (if a0 ≥ 65 then (if a0 ≤ 90 then (some true) else (some (a0 == 95))) else (some (a0 == 95)))) else (if a0 ≥ 65 then (if a0 ≤ 90 then (some true) else (some (a0 == 95))) else (some (a0 == 95)))
set_option maxHeartbeats 8000000 in
set_option maxRecDepth 100000 in
theorem dowelref04_letter.calls (a0 : Int) (r : Bool) (w : World) (h : dowelref04_letter.f a0 = some r) :
    Calls Tryd.prog 85 #[.int .u8 a0] w fun e w' => e = .returned (.bool r) ∧ Drawn0 w w' := by
  have H : (if a0 ≥ 97 then (if a0 ≤ 122 then (some true) else (if a0 ≥ 65 then (if a0 ≤ 90 then (some true) else (some (a0 == 95))) else (some (a0 == 95)))) else (if a0 ≥ 65 then (if a0 ≤ 90 then (some true) else (some (a0 == 95))) else (some (a0 == 95)))) = some r := h
  clear h
  by_cases c2 : a0 ≥ 97
  · rw [if_pos c2] at H
    have c2b0 : decide (97 ≤ a0) = true := decide_eq_true c2
    clear c2
    by_cases c3 : a0 ≤ 122
    · rw [if_pos c3] at H
      have c3b0 : decide (a0 ≤ 122) = true := decide_eq_true c3
      clear c3
      obtain rfl := Option.some.inj H
      go_enter Tryd.func85, Tryd.ntmps85
      go_wp2
      go_ret
      exact ⟨by first | rfl | (simp; done) | (simp [*]; done), by repeat (first | exact Drawn0.refl _ | apply Drawn0.step)⟩
    · rw [if_neg c3] at H
      have c3b0 : decide (a0 ≤ 122) = false := decide_eq_false c3
      clear c3
      by_cases c4 : a0 ≥ 65
      · rw [if_pos c4] at H
        have c4b0 : decide (65 ≤ a0) = true := decide_eq_true c4
        clear c4
        by_cases c5 : a0 ≤ 90
        · rw [if_pos c5] at H
          have c5b0 : decide (a0 ≤ 90) = true := decide_eq_true c5
          clear c5
          obtain rfl := Option.some.inj H
          go_enter Tryd.func85, Tryd.ntmps85
          go_wp2
          go_ret
          exact ⟨by first | rfl | (simp; done) | (simp [*]; done), by repeat (first | exact Drawn0.refl _ | apply Drawn0.step)⟩
        · rw [if_neg c5] at H
          have c5b0 : decide (a0 ≤ 90) = false := decide_eq_false c5
          clear c5
          obtain rfl := Option.some.inj H
          go_enter Tryd.func85, Tryd.ntmps85
          go_wp2
          go_ret
          exact ⟨by first | rfl | (simp; done) | (simp [*]; done), by repeat (first | exact Drawn0.refl _ | apply Drawn0.step)⟩
      · rw [if_neg c4] at H
        have c4b0 : decide (65 ≤ a0) = false := decide_eq_false c4
        clear c4
        obtain rfl := Option.some.inj H
        go_enter Tryd.func85, Tryd.ntmps85
        go_wp2
        go_ret
        exact ⟨by first | rfl | (simp; done) | (simp [*]; done), by repeat (first | exact Drawn0.refl _ | apply Drawn0.step)⟩
  · rw [if_neg c2] at H
    have c2b0 : decide (97 ≤ a0) = false := decide_eq_false c2
    clear c2
    by_cases c6 : a0 ≥ 65
    · rw [if_pos c6] at H
      have c6b0 : decide (65 ≤ a0) = true := decide_eq_true c6
      clear c6
      by_cases c7 : a0 ≤ 90
      · rw [if_pos c7] at H
        have c7b0 : decide (a0 ≤ 90) = true := decide_eq_true c7
        clear c7
        obtain rfl := Option.some.inj H
        go_enter Tryd.func85, Tryd.ntmps85
        go_wp2
        go_ret
        exact ⟨by first | rfl | (simp; done) | (simp [*]; done), by repeat (first | exact Drawn0.refl _ | apply Drawn0.step)⟩
      · rw [if_neg c7] at H
        have c7b0 : decide (a0 ≤ 90) = false := decide_eq_false c7
        clear c7
        obtain rfl := Option.some.inj H
        go_enter Tryd.func85, Tryd.ntmps85
        go_wp2
        go_ret
        exact ⟨by first | rfl | (simp; done) | (simp [*]; done), by repeat (first | exact Drawn0.refl _ | apply Drawn0.step)⟩
    · rw [if_neg c6] at H
      have c6b0 : decide (65 ≤ a0) = false := decide_eq_false c6
      clear c6
      obtain rfl := Option.some.inj H
      go_enter Tryd.func85, Tryd.ntmps85
      go_wp2
      go_ret
      exact ⟨by first | rfl | (simp; done) | (simp [*]; done), by repeat (first | exact Drawn0.refl _ | apply Drawn0.step)⟩
def dowelref04_digit.f (a0 : Int) : Option (Bool) := if a0 ≥ 48 then (some (decide (a0 ≤ 57))) else (some false)
set_option maxHeartbeats 8000000 in
set_option maxRecDepth 100000 in
theorem dowelref04_digit.calls (a0 : Int) (r : Bool) (w : World) (h : dowelref04_digit.f a0 = some r) :
    Calls Tryd.prog 86 #[.int .u8 a0] w fun e w' => e = .returned (.bool r) ∧ Drawn0 w w' := by
  have H : (if a0 ≥ 48 then (some (decide (a0 ≤ 57))) else (some false)) = some r := h
  clear h
  by_cases c2 : a0 ≥ 48
  · rw [if_pos c2] at H
    have c2b0 : decide (48 ≤ a0) = true := decide_eq_true c2
    clear c2
    obtain rfl := Option.some.inj H
    go_enter Tryd.func86, Tryd.ntmps86
    go_wp2
    go_ret
    exact ⟨by first | rfl | (simp; done) | (simp [*]; done), by repeat (first | exact Drawn0.refl _ | apply Drawn0.step)⟩
  · rw [if_neg c2] at H
    have c2b0 : decide (48 ≤ a0) = false := decide_eq_false c2
    clear c2
    obtain rfl := Option.some.inj H
    go_enter Tryd.func86, Tryd.ntmps86
    go_wp2
    go_ret
    exact ⟨by first | rfl | (simp; done) | (simp [*]; done), by repeat (first | exact Drawn0.refl _ | apply Drawn0.step)⟩
mutual
def dowelref04_own.j0 : Nat → ByteArray → Int → Bool → Option (Int)
  | 0, _, _, _ => none
  | k + 1, x0, x1, x16 => if x16 = true then (some x1) else (dowelref04_own.l0 k x0 x1)
def dowelref04_own.l0 : Nat → ByteArray → Int → Option (Int)
  | 0, _, _ => none
  | k + 1, x0, x5 => if x5 < (x0.size : Int) then (if 0 ≤ x5 then ((dowelref04_letter.f (bt x0 x5)).bind fun t175 => (if t175 = true then (dowelref04_own.l0 k x0 (wrap64 (x5 + 1))) else ((dowelref04_digit.f (bt x0 x5)).bind fun t176 => (if t176 = true then (dowelref04_own.l0 k x0 (wrap64 (x5 + 1))) else (some x5))))) else (none)) else (some x5)
end
def dowelref04_own.f (k : Nat) (a0 : ByteArray) (a1 : Int) : Option (Int) := if a1 ≥ (a0.size : Int) then (dowelref04_own.j0 k a0 a1 true) else (if 0 ≤ a1 then (if a1 < (a0.size : Int) then ((dowelref04_letter.f (bt a0 a1)).bind fun t174 => (dowelref04_own.j0 k a0 a1 (!t174))) else (none)) else (none))
set_option maxHeartbeats 8000000 in
set_option maxRecDepth 100000 in
theorem dowelref04_own.calls (k : Nat) (a0 : ByteArray) (a1 : Int) (r : Int) (w : World) (h : dowelref04_own.f k a0 a1 = some r) :
    Calls Tryd.prog 65 #[.string a0, .int .i64 a1] w fun e w' => e = .returned (.int .i64 r) ∧ Drawn0 w w' := by
  have H : (if a1 ≥ (a0.size : Int) then (dowelref04_own.j0 k a0 a1 true) else (if 0 ≤ a1 then (if a1 < (a0.size : Int) then ((dowelref04_letter.f (bt a0 a1)).bind fun t174 => (dowelref04_own.j0 k a0 a1 (!t174))) else (none)) else (none))) = some r := h
  clear h
  have HC3 := Aside0.mk H
  clear H
  go_enter Tryd.func65, Tryd.ntmps65
  go_upto_region 1 with (fail)
  go_cut [16] (fun v16 wc => ∃ (kq : Nat) (x16_2 : Bool), v16 = .bool x16_2 ∧ Aside0 (dowelref04_own.j0 kq a0 a1 x16_2 = some r) ∧ Aside0 (kq ≤ k) ∧ Drawn0 w wc)
  case first =>
    have H := HC3.out
    clear HC3
    by_cases c4 : a1 ≥ (a0.size : Int)
    · rw [if_pos c4] at H
      have c4b0 : decide ((a0.size : Int) ≤ a1) = true := decide_eq_true c4
      clear c4
      (first | rw [c4b0] | (simp only [i64_w, i32_w]; rw [c4b0]) | skip)
      have H' := Aside0.mk H
      clear H
      go_wp2
      go_meet
      case rel => exact ⟨_, (true), (by first | rfl | (simp; done) | (simp [*]; done)), H', ⟨by first | omega | exact Nat.le_refl _⟩, by repeat (first | exact Drawn0.refl _ | apply Drawn0.step)⟩
    · rw [if_neg c4] at H
      have c4b0 : decide ((a0.size : Int) ≤ a1) = false := decide_eq_false c4
      clear c4
      (first | rw [c4b0] | (simp only [i64_w, i32_w]; rw [c4b0]) | skip)
      by_cases c5 : 0 ≤ a1
      · rw [if_pos c5] at H
        have c5b0 : decide (0 ≤ a1) = true := decide_eq_true c5
        clear c5
        by_cases c6 : a1 < (a0.size : Int)
        · rw [if_pos c6] at H
          have c6b0 : decide (a1 < (a0.size : Int)) = true := decide_eq_true c6
          clear c6
          replace H := Option.bind_eq_some_iff.mp H
          obtain ⟨t174, A80, H⟩ := H
          replace H : (dowelref04_own.j0 k a0 a1 (!t174)) = some r := H
          have A8 := Aside0.mk A80
          clear A80
          have H' := Aside0.mk H
          clear H
          have p7 : 0 ≤ (a1 : Int) := of_decide_eq_true (by first | (with_reducible assumption) | assumption)
          have q7 : a1 < (a0.size : Int) := of_decide_eq_true (by first | (with_reducible assumption) | assumption)
          have hx7 := bt_at a0 a1
          replace p7 := eq_true p7
          replace q7 := eq_true q7
          go_wp2_with (first | (go_at_call 85; (with_reducible refine (dowelref04_letter.calls (bt a0 a1) t174 _ A8.out).mono ?_); rintro e w' ⟨rfl, ⟨nd, rfl⟩⟩))
          go_meet
          case rel => exact ⟨_, (!t174), (by first | rfl | (simp; done) | (simp [*]; done)), H', ⟨by first | omega | exact Nat.le_refl _⟩, by repeat (first | exact Drawn0.refl _ | apply Drawn0.step)⟩
        · rw [if_neg c6] at H
          exact absurd H (by simp)
      · rw [if_neg c5] at H
        exact absurd H (by simp)
  case rest =>
    clear HC3
    try clear p2
    try clear c4
    try clear c4b0
    try clear c5
    try clear c5b0
    try clear c6
    try clear c6b0
    try clear p7
    try clear q7
    try clear hx7
    try clear p7
    try clear q7
    obtain ⟨kq, x16_2, rfl, HA, HJ2, ⟨mc2, rfl⟩⟩ := hcut
    cases kq with
    | zero => exact absurd HA.out (by simp [dowelref04_own.j0])
    | succ kj2 =>
      have H := HA.out
      clear HA
      simp only [dowelref04_own.j0] at H
      by_cases c9 : x16_2 = true
      · subst c9
        have H1 : (some a1) = some r := by rw [if_pos rfl] at H; exact H
        clear H
        have H := H1
        clear H1
        obtain rfl := Option.some.inj H
        go_wp2
        go_ret
        exact ⟨by first | rfl | (simp; done) | (simp [*]; done), by repeat (first | exact Drawn0.refl _ | apply Drawn0.step)⟩
      · replace c9 := Bool.eq_false_iff.mpr c9
        subst c9
        have H1 : (dowelref04_own.l0 kj2 a0 a1) = some r := by rw [if_neg (show ¬ (false = true) by decide)] at H; exact H
        clear H
        have H := H1
        clear H1
        have H' := Aside0.mk H
        clear H
        go_wp2
        go_loopg [5] kj2 (fun kq v5 w' => ∃ (x5_2 : Int), v5 = .int .i64 x5_2 ∧ Aside0 (dowelref04_own.l0 kq a0 x5_2 = some r) ∧ Aside0 (kq ≤ kj2) ∧ Drawn0 w w')
        case atStart => exact ⟨(a1), (by first | rfl | (simp; done) | (simp [*]; done)), H', ⟨Nat.le_refl _⟩, by repeat (first | exact Drawn0.refl _ | apply Drawn0.step)⟩
        case round =>
          clear H'
          try clear c2
          try clear p2
          try clear c4
          try clear c4b0
          try clear c5
          try clear c5b0
          try clear c6
          try clear c6b0
          try clear p7
          try clear q7
          try clear hx7
          try clear c9
          try clear p2
          try clear p7
          try clear q7
          obtain ⟨x5_2, rfl, HA, HK2, ⟨m2, rfl⟩⟩ := hrel
          cases gk with
          | zero => exact absurd HA.out (by simp [dowelref04_own.l0])
          | succ k2 =>
            have H := HA.out
            clear HA
            simp only [dowelref04_own.l0] at H
            by_cases c10 : x5_2 < (a0.size : Int)
            · rw [if_pos c10] at H
              have c10b0 : decide (x5_2 < (a0.size : Int)) = true := decide_eq_true c10
              clear c10
              by_cases c11 : 0 ≤ x5_2
              · rw [if_pos c11] at H
                have c11b0 : decide (0 ≤ x5_2) = true := decide_eq_true c11
                clear c11
                replace H := Option.bind_eq_some_iff.mp H
                obtain ⟨t175, A130, H⟩ := H
                replace H : (if t175 = true then (dowelref04_own.l0 k2 a0 (wrap64 (x5_2 + 1))) else ((dowelref04_digit.f (bt a0 x5_2)).bind fun t176 => (if t176 = true then (dowelref04_own.l0 k2 a0 (wrap64 (x5_2 + 1))) else (some x5_2)))) = some r := H
                have A13 := Aside0.mk A130
                clear A130
                by_cases c14 : t175 = true
                · subst c14
                  have H1 : (dowelref04_own.l0 k2 a0 (wrap64 (x5_2 + 1))) = some r := by rw [if_pos rfl] at H; exact H
                  clear H
                  have H := H1
                  clear H1
                  have H' := Aside0.mk H
                  clear H
                  have p12 : 0 ≤ (x5_2 : Int) := of_decide_eq_true (by first | (with_reducible assumption) | assumption)
                  have q12 : x5_2 < (a0.size : Int) := of_decide_eq_true (by first | (with_reducible assumption) | assumption)
                  have hx12 := bt_at a0 x5_2
                  replace p12 := eq_true p12
                  replace q12 := eq_true q12
                  go_wp2_with (first | (go_at_call 85; (with_reducible refine (dowelref04_letter.calls (bt a0 x5_2) true _ A13.out).mono ?_); rintro e w' ⟨rfl, ⟨nd, rfl⟩⟩))
                  go_roundg k2
                  case measure => have := HJ2.out; have := HK2.out; omega
                  case rel => exact ⟨(wrap64 (x5_2 + 1)), (by first | rfl | (simp; done) | (simp [*]; done)), H', ⟨by have := HJ2.out; have := HK2.out; omega⟩, by repeat (first | exact Drawn0.refl _ | apply Drawn0.step)⟩
                · replace c14 := Bool.eq_false_iff.mpr c14
                  subst c14
                  have H1 : ((dowelref04_digit.f (bt a0 x5_2)).bind fun t176 => (if t176 = true then (dowelref04_own.l0 k2 a0 (wrap64 (x5_2 + 1))) else (some x5_2))) = some r := by rw [if_neg (show ¬ (false = true) by decide)] at H; exact H
                  clear H
                  have H := H1
                  clear H1
                  replace H := Option.bind_eq_some_iff.mp H
                  obtain ⟨t176, A160, H⟩ := H
                  replace H : (if t176 = true then (dowelref04_own.l0 k2 a0 (wrap64 (x5_2 + 1))) else (some x5_2)) = some r := H
                  have A16 := Aside0.mk A160
                  clear A160
                  by_cases c17 : t176 = true
                  · subst c17
                    have H1 : (dowelref04_own.l0 k2 a0 (wrap64 (x5_2 + 1))) = some r := by rw [if_pos rfl] at H; exact H
                    clear H
                    have H := H1
                    clear H1
                    have H' := Aside0.mk H
                    clear H
                    have p12 : 0 ≤ (x5_2 : Int) := of_decide_eq_true (by first | (with_reducible assumption) | assumption)
                    have q12 : x5_2 < (a0.size : Int) := of_decide_eq_true (by first | (with_reducible assumption) | assumption)
                    have hx12 := bt_at a0 x5_2
                    replace p12 := eq_true p12
                    replace q12 := eq_true q12
                    go_wp2_with (first | (go_at_call 85; (with_reducible refine (dowelref04_letter.calls (bt a0 x5_2) false _ A13.out).mono ?_); rintro e w' ⟨rfl, ⟨nd, rfl⟩⟩; have p15 : 0 ≤ (x5_2 : Int) := of_decide_eq_true (by first | (with_reducible assumption) | assumption); have q15 : x5_2 < (a0.size : Int) := of_decide_eq_true (by first | (with_reducible assumption) | assumption); have hx15 := bt_at a0 x5_2; replace p15 := eq_true p15; replace q15 := eq_true q15) | (go_at_call 86; (with_reducible refine (dowelref04_digit.calls (bt a0 x5_2) true _ A16.out).mono ?_); rintro e w' ⟨rfl, ⟨nd, rfl⟩⟩))
                    go_roundg k2
                    case measure => have := HJ2.out; have := HK2.out; omega
                    case rel => exact ⟨(wrap64 (x5_2 + 1)), (by first | rfl | (simp; done) | (simp [*]; done)), H', ⟨by have := HJ2.out; have := HK2.out; omega⟩, by repeat (first | exact Drawn0.refl _ | apply Drawn0.step)⟩
                  · replace c17 := Bool.eq_false_iff.mpr c17
                    subst c17
                    have H1 : (some x5_2) = some r := by rw [if_neg (show ¬ (false = true) by decide)] at H; exact H
                    clear H
                    have H := H1
                    clear H1
                    obtain rfl := Option.some.inj H
                    have p12 : 0 ≤ (x5_2 : Int) := of_decide_eq_true (by first | (with_reducible assumption) | assumption)
                    have q12 : x5_2 < (a0.size : Int) := of_decide_eq_true (by first | (with_reducible assumption) | assumption)
                    have hx12 := bt_at a0 x5_2
                    replace p12 := eq_true p12
                    replace q12 := eq_true q12
                    go_wp2_with (first | (go_at_call 85; (with_reducible refine (dowelref04_letter.calls (bt a0 x5_2) false _ A13.out).mono ?_); rintro e w' ⟨rfl, ⟨nd, rfl⟩⟩; have p15 : 0 ≤ (x5_2 : Int) := of_decide_eq_true (by first | (with_reducible assumption) | assumption); have q15 : x5_2 < (a0.size : Int) := of_decide_eq_true (by first | (with_reducible assumption) | assumption); have hx15 := bt_at a0 x5_2; replace p15 := eq_true p15; replace q15 := eq_true q15) | (go_at_call 86; (with_reducible refine (dowelref04_digit.calls (bt a0 x5_2) false _ A16.out).mono ?_); rintro e w' ⟨rfl, ⟨nd, rfl⟩⟩))
                    go_ret
                    exact ⟨by first | rfl | (simp; done) | (simp [*]; done), by repeat (first | exact Drawn0.refl _ | apply Drawn0.step)⟩
              · rw [if_neg c11] at H
                exact absurd H (by simp)
            · rw [if_neg c10] at H
              have c10b0 : decide (x5_2 < (a0.size : Int)) = false := decide_eq_false c10
              clear c10
              obtain rfl := Option.some.inj H
              go_wp2
              go_ret
              exact ⟨by first | rfl | (simp; done) | (simp [*]; done), by repeat (first | exact Drawn0.refl _ | apply Drawn0.step)⟩
def dowelref04_digits.l0 : Nat → ByteArray → Int → Option (Int)
  | 0, _, _ => none
  | k + 1, x0, x1 => if x1 < (x0.size : Int) then (if 0 ≤ x1 then ((dowelref04_digit.f (bt x0 x1)).bind fun t177 => (if t177 = true then (dowelref04_digits.l0 k x0 (wrap64 (x1 + 1))) else (some x1))) else (none)) else (some x1)
def dowelref04_digits.f (k : Nat) (a0 : ByteArray) (a1 : Int) : Option (Int) := dowelref04_digits.l0 k a0 a1
set_option maxHeartbeats 8000000 in
set_option maxRecDepth 100000 in
theorem dowelref04_digits.calls (k : Nat) (a0 : ByteArray) (a1 : Int) (r : Int) (w : World) (h : dowelref04_digits.f k a0 a1 = some r) :
    Calls Tryd.prog 84 #[.string a0, .int .i64 a1] w fun e w' => e = .returned (.int .i64 r) ∧ Drawn0 w w' := by
  have H : (dowelref04_digits.l0 k a0 a1) = some r := h
  clear h
  have H' := Aside0.mk H
  clear H
  go_enter Tryd.func84, Tryd.ntmps84
  go_wp2
  go_loopg [1] k (fun kq v1 w' => ∃ (x1_1 : Int), v1 = .int .i64 x1_1 ∧ Aside0 (dowelref04_digits.l0 kq a0 x1_1 = some r) ∧ Aside0 (kq ≤ k) ∧ Drawn0 w w')
  case atStart => exact ⟨(a1), (by first | rfl | (simp; done) | (simp [*]; done)), H', ⟨Nat.le_refl _⟩, by repeat (first | exact Drawn0.refl _ | apply Drawn0.step)⟩
  case round =>
    clear H'
    try clear p2
    obtain ⟨x1_1, rfl, HA, HK1, ⟨m1, rfl⟩⟩ := hrel
    cases gk with
    | zero => exact absurd HA.out (by simp [dowelref04_digits.l0])
    | succ k1 =>
      have H := HA.out
      clear HA
      simp only [dowelref04_digits.l0] at H
      by_cases c3 : x1_1 < (a0.size : Int)
      · rw [if_pos c3] at H
        have c3b0 : decide (x1_1 < (a0.size : Int)) = true := decide_eq_true c3
        clear c3
        by_cases c4 : 0 ≤ x1_1
        · rw [if_pos c4] at H
          have c4b0 : decide (0 ≤ x1_1) = true := decide_eq_true c4
          clear c4
          replace H := Option.bind_eq_some_iff.mp H
          obtain ⟨t177, A60, H⟩ := H
          replace H : (if t177 = true then (dowelref04_digits.l0 k1 a0 (wrap64 (x1_1 + 1))) else (some x1_1)) = some r := H
          have A6 := Aside0.mk A60
          clear A60
          by_cases c7 : t177 = true
          · subst c7
            have H1 : (dowelref04_digits.l0 k1 a0 (wrap64 (x1_1 + 1))) = some r := by rw [if_pos rfl] at H; exact H
            clear H
            have H := H1
            clear H1
            have H' := Aside0.mk H
            clear H
            have p5 : 0 ≤ (x1_1 : Int) := of_decide_eq_true (by first | (with_reducible assumption) | assumption)
            have q5 : x1_1 < (a0.size : Int) := of_decide_eq_true (by first | (with_reducible assumption) | assumption)
            have hx5 := bt_at a0 x1_1
            replace p5 := eq_true p5
            replace q5 := eq_true q5
            go_wp2_with (first | (go_at_call 86; (with_reducible refine (dowelref04_digit.calls (bt a0 x1_1) true _ A6.out).mono ?_); rintro e w' ⟨rfl, ⟨nd, rfl⟩⟩))
            go_roundg k1
            case measure => have := HK1.out; omega
            case rel => exact ⟨(wrap64 (x1_1 + 1)), (by first | rfl | (simp; done) | (simp [*]; done)), H', ⟨by have := HK1.out; omega⟩, by repeat (first | exact Drawn0.refl _ | apply Drawn0.step)⟩
          · replace c7 := Bool.eq_false_iff.mpr c7
            subst c7
            have H1 : (some x1_1) = some r := by rw [if_neg (show ¬ (false = true) by decide)] at H; exact H
            clear H
            have H := H1
            clear H1
            obtain rfl := Option.some.inj H
            have p5 : 0 ≤ (x1_1 : Int) := of_decide_eq_true (by first | (with_reducible assumption) | assumption)
            have q5 : x1_1 < (a0.size : Int) := of_decide_eq_true (by first | (with_reducible assumption) | assumption)
            have hx5 := bt_at a0 x1_1
            replace p5 := eq_true p5
            replace q5 := eq_true q5
            go_wp2_with (first | (go_at_call 86; (with_reducible refine (dowelref04_digit.calls (bt a0 x1_1) false _ A6.out).mono ?_); rintro e w' ⟨rfl, ⟨nd, rfl⟩⟩))
            go_ret
            exact ⟨by first | rfl | (simp; done) | (simp [*]; done), by repeat (first | exact Drawn0.refl _ | apply Drawn0.step)⟩
        · rw [if_neg c4] at H
          exact absurd H (by simp)
      · rw [if_neg c3] at H
        have c3b0 : decide (x1_1 < (a0.size : Int)) = false := decide_eq_false c3
        clear c3
        obtain rfl := Option.some.inj H
        go_wp2
        go_ret
        exact ⟨by first | rfl | (simp; done) | (simp [*]; done), by repeat (first | exact Drawn0.refl _ | apply Drawn0.step)⟩
end Go.Proofs.YtldjdcdoegjmoaaDoor.P
