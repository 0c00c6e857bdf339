import Derived.Test.YtldjdcdoegjmoaaDoorC1
import Derived.Test.YtldjdcdoegjmoaaDoorC3
namespace Go.Proofs.YtldjdcdoegjmoaaDoor.P
open Go.RowKit Go.Proofs.YtldjdcdoegjmoaaDoorW.PrintWords Go.Proofs.YtldjdcdoegjmoaaDoorW.PrintLast Go.Proofs.YtldjdcdoegjmoaaDoorW.PrintMore
set_option linter.unusedVariables false
set_option linter.unusedSimpArgs false
attribute [local go_sem high] eqA26
def lexis_right.j0 : Nat → Int → Bool → Int → Int → Int → ByteArray → Bool → Int → Int → Int → Int → Int → Int → Int → Int → Int → ByteArray → Bool → Int → Int → Int → Int → Int → Int → Option (Bool)
  | 0, _, _, _, _, _, _, _, _, _, _, _, _, _, _, _, _, _, _, _, _, _, _, _, _ => none
  | k + 1, x9, x21, x114000, x114001, x114002, x114003, x114004, x114005, x114006, x114007, x114008, x114009, x114010, x115000, x115001, x115002, x115003, x115004, x115005, x115006, x115007, x115008, x115009, x115010 => if x21 = true then (if (x115000 == 0 && (x115001 == 0 && (x115002 == 0 && (!x115004 && ((x115005 == 0 && (x115006 == 0 && (x115007 == 0 && (x115008 == 0)))) && (x115009 == 0 && (x115010 == 0))))))) = true then ((lexis_ownName.f k x114003).bind fun t116 => (some t116)) else (some false)) else (if x9 = 9 then (if (x115000 == 0 && (x115001 == 0 && (x115002 == 0 && (x115003.toList == ([] : List UInt8) && (!x115004 && ((x115005 == 0 && (x115006 == 0 && (x115007 == 0 && (x115008 == 0)))))))))) = true then (if x114009 ≥ 0 then (if x114009 ≤ 255 then (if x114010 = (-1) then (some true) else (if x114010 ≥ x114009 then (some (decide (x114010 ≤ 255))) else (some false))) else (some false)) else (some false)) else (some false)) else (if x9 = 14 then (some (x115000 == 0 && (x115001 == 0 && (x115002 == 0 && ((x115005 == 0 && (x115006 == 0 && (x115007 == 0 && (x115008 == 0)))) && (x115009 == 0 && (x115010 == 0))))))) else (if x9 = 15 then (some (x115000 == 0 && (x115001 == 0 && (x115002 == 0 && (x115003.toList == ([] : List UInt8) && (!x115004 && (x115009 == 0 && (x115010 == 0)))))))) else (if x114000 ≥ 0 then (if x114000 ≤ 17 then (some (x115000 == 0 && (x115001 == 0 && (x115002 == 0 && (x115003.toList == ([] : List UInt8) && (!x115004 && ((x115005 == 0 && (x115006 == 0 && (x115007 == 0 && (x115008 == 0)))) && (x115009 == 0 && (x115010 == 0))))))))) else (some false)) else (some false)))))
def lexis_right.f (k : Nat) (a0_0 : Int) (a0_1 : Int) (a0_2 : Int) (a0_3 : ByteArray) (a0_4 : Bool) (a0_5 : Int) (a0_6 : Int) (a0_7 : Int) (a0_8 : Int) (a0_9 : Int) (a0_10 : Int) : Option (Bool) := if a0_0 = 1 then (if (!a0_4 && ((a0_5 == 0 && (a0_6 == 0 && (a0_7 == 0 && (a0_8 == 0)))) && (a0_9 == 0 && (a0_10 == 0)))) = true then ((lexis_Name.f k a0_3).bind fun t115 => (some t115)) else (some false)) else (if a0_0 = 16 then (lexis_right.j0 k a0_0 (a0_0 == 16) a0_0 0 0 a0_3 a0_4 a0_5 a0_6 a0_7 a0_8 a0_9 a0_10 0 0 0 a0_3 a0_4 a0_5 a0_6 a0_7 a0_8 a0_9 a0_10) else (lexis_right.j0 k a0_0 (a0_0 == 17) a0_0 0 0 a0_3 a0_4 a0_5 a0_6 a0_7 a0_8 a0_9 a0_10 0 0 0 a0_3 a0_4 a0_5 a0_6 a0_7 a0_8 a0_9 a0_10))
theorem lexis_right.mono_l : ∀ k, (∀ y0 y1 y2 y3 y4 y5 y6 y7 y8 y9 y10 y11 y12 y13 y14 y15 y16 y17 y18 y19 y20 y21 y22 y23, LeO (lexis_right.j0 k y0 y1 y2 y3 y4 y5 y6 y7 y8 y9 y10 y11 y12 y13 y14 y15 y16 y17 y18 y19 y20 y21 y22 y23) (lexis_right.j0 (k + 1) y0 y1 y2 y3 y4 y5 y6 y7 y8 y9 y10 y11 y12 y13 y14 y15 y16 y17 y18 y19 y20 y21 y22 y23))
  | 0 => fun _ _ _ _ _ _ _ _ _ _ _ _ _ _ _ _ _ _ _ _ _ _ _ _ r h => by simp [lexis_right.j0] at h
  | k + 1 => by
    have ih0 := lexis_right.mono_l k
    · intro y0 y1 y2 y3 y4 y5 y6 y7 y8 y9 y10 y11 y12 y13 y14 y15 y16 y17 y18 y19 y20 y21 y22 y23; unfold lexis_right.j0
      repeat' first
      | (with_reducible exact ih0 _ _ _ _ _ _ _ _ _ _ _ _ _ _ _ _ _ _ _ _ _ _ _ _)
      | (with_reducible exact lexis_Name.mono _ _)
      | (with_reducible exact lexis_ownName.mono _ _)
      | (with_reducible exact LeO.refl _)
      | (with_reducible exact LeO.none _)
      | (with_reducible refine LeO.ite ?_ ?_)
      | (with_reducible refine LeO.bind ?_ (fun _ => ?_))
      | exact ih0 _ _ _ _ _ _ _ _ _ _ _ _ _ _ _ _ _ _ _ _ _ _ _ _
      | exact lexis_Name.mono _ _
      | exact lexis_ownName.mono _ _
      | exact LeO.none _
      | refine LeO.ite ?_ ?_
      | refine LeO.bind ?_ (fun _ => ?_)
theorem lexis_right.mono : ∀ a0 a1 a2 a3 a4 a5 a6 a7 a8 a9 a10 k, LeO (lexis_right.f k a0 a1 a2 a3 a4 a5 a6 a7 a8 a9 a10) (lexis_right.f (k + 1) a0 a1 a2 a3 a4 a5 a6 a7 a8 a9 a10) := by
  intro a0 a1 a2 a3 a4 a5 a6 a7 a8 a9 a10 k; have ih0 := lexis_right.mono_l k; unfold lexis_right.f
  repeat' first
      | (with_reducible exact ih0 _ _ _ _ _ _ _ _ _ _ _ _ _ _ _ _ _ _ _ _ _ _ _ _)
      | (with_reducible exact lexis_Name.mono _ _)
      | (with_reducible exact lexis_ownName.mono _ _)
      | (with_reducible exact LeO.refl _)
      | (with_reducible exact LeO.none _)
      | (with_reducible refine LeO.ite ?_ ?_)
      | (with_reducible refine LeO.bind ?_ (fun _ => ?_))
      | exact ih0 _ _ _ _ _ _ _ _ _ _ _ _ _ _ _ _ _ _ _ _ _ _ _ _
      | exact lexis_Name.mono _ _
      | exact lexis_ownName.mono _ _
      | exact LeO.none _
      | refine LeO.ite ?_ ?_
      | refine LeO.bind ?_ (fun _ => ?_)
theorem lexis_right.below2 (w : World) (o1 o2 : Obj) : Below w.heap.size w ((w.alloc o1).alloc o2) :=
  ((Below.refl _ _).alloc (Nat.le_refl _) _).alloc (by simp) _
theorem lexis_right.below2d {w w' : World} {o1 o2 : Obj} (h : Drawn0 ((w.alloc o1).alloc o2) w') : Below w.heap.size w w' := by
  obtain ⟨n, rfl⟩ := h; exact ⟨(lexis_right.below2 w o1 o2).os, (lexis_right.below2 w o1 o2).tape, (lexis_right.below2 w o1 o2).output, (lexis_right.below2 w o1 o2).size, (lexis_right.below2 w o1 o2).block⟩
set_option maxRecDepth 100000 in
set_option maxHeartbeats 2000000 in
theorem lexis_right.w1 (a1 a2 : Int) (a3 : ByteArray) (a4 : Bool) (a5 a6 a7 a8 a9 a10 : Int) (w : World) (k : Nat) (r : Bool) (hT : (!a4 && ((a5 == 0 && (a6 == 0 && (a7 == 0 && (a8 == 0)))) && (a9 == 0 && (a10 == 0)))) = true) (hr : lexis_Name.f k a3 = some r) :
    Calls Tryd.prog 19 #[.agg #[.int .i64 1, .int .i64 a1, .int .i64 a2, .string a3, .bool a4, .int .u64 a5, .int .u64 a6, .int .u64 a7, .int .u64 a8, .int .i64 a9, .int .i64 a10]] w fun e w' => e = .returned (.bool r) ∧ Below w.heap.size w w' := by
  go_enter Tryd.func19, Tryd.ntmps19; go_wp2_with fail; refine (lexis_Name.calls k a3 r _ hr).mono ?_; rintro e W2 ⟨rfl, hb2⟩; have hB := lexis_right.below2d hb2; clear hb2; go_wp2
  go_ret
  exact ⟨rfl, hB⟩
set_option maxRecDepth 100000 in
set_option maxHeartbeats 2000000 in
theorem lexis_right.w1f (a1 a2 : Int) (a3 : ByteArray) (a4 : Bool) (a5 a6 a7 a8 a9 a10 : Int) (w : World) (hT : (!a4 && ((a5 == 0 && (a6 == 0 && (a7 == 0 && (a8 == 0)))) && (a9 == 0 && (a10 == 0)))) = false) :
    Calls Tryd.prog 19 #[.agg #[.int .i64 1, .int .i64 a1, .int .i64 a2, .string a3, .bool a4, .int .u64 a5, .int .u64 a6, .int .u64 a7, .int .u64 a8, .int .i64 a9, .int .i64 a10]] w fun e w' => e = .returned (.bool false) ∧ Below w.heap.size w w' := by
  go_enter Tryd.func19, Tryd.ntmps19; go_wp2
  go_ret
  exact ⟨rfl, lexis_right.below2 _ _ _⟩
set_option maxRecDepth 100000 in
set_option maxHeartbeats 2000000 in
theorem lexis_right.w16 (a1 a2 : Int) (a3 : ByteArray) (a4 : Bool) (a5 a6 a7 a8 a9 a10 : Int) (w : World) (k : Nat) (r : Bool) (hT : (!a4 && ((a5 == 0 && (a6 == 0 && (a7 == 0 && (a8 == 0)))) && (a9 == 0 && (a10 == 0)))) = true) (hr : lexis_ownName.f k a3 = some r) :
    Calls Tryd.prog 19 #[.agg #[.int .i64 16, .int .i64 a1, .int .i64 a2, .string a3, .bool a4, .int .u64 a5, .int .u64 a6, .int .u64 a7, .int .u64 a8, .int .i64 a9, .int .i64 a10]] w fun e w' => e = .returned (.bool r) ∧ Below w.heap.size w w' := by
  go_enter Tryd.func19, Tryd.ntmps19; go_wp2_with fail; refine (lexis_ownName.calls k a3 r _ hr).mono ?_; rintro e W2 ⟨rfl, hb2⟩; have hB := lexis_right.below2d hb2; clear hb2; go_wp2
  go_ret
  exact ⟨rfl, hB⟩
set_option maxRecDepth 100000 in
set_option maxHeartbeats 2000000 in
theorem lexis_right.w16f (a1 a2 : Int) (a3 : ByteArray) (a4 : Bool) (a5 a6 a7 a8 a9 a10 : Int) (w : World) (hT : (!a4 && ((a5 == 0 && (a6 == 0 && (a7 == 0 && (a8 == 0)))) && (a9 == 0 && (a10 == 0)))) = false) :
    Calls Tryd.prog 19 #[.agg #[.int .i64 16, .int .i64 a1, .int .i64 a2, .string a3, .bool a4, .int .u64 a5, .int .u64 a6, .int .u64 a7, .int .u64 a8, .int .i64 a9, .int .i64 a10]] w fun e w' => e = .returned (.bool false) ∧ Below w.heap.size w w' := by
  go_enter Tryd.func19, Tryd.ntmps19; go_wp2
  go_ret
  exact ⟨rfl, lexis_right.below2 _ _ _⟩
set_option maxRecDepth 100000 in
set_option maxHeartbeats 2000000 in
theorem lexis_right.w17 (a1 a2 : Int) (a3 : ByteArray) (a4 : Bool) (a5 a6 a7 a8 a9 a10 : Int) (w : World) (k : Nat) (r : Bool) (hT : (!a4 && ((a5 == 0 && (a6 == 0 && (a7 == 0 && (a8 == 0)))) && (a9 == 0 && (a10 == 0)))) = true) (hr : lexis_ownName.f k a3 = some r) :
    Calls Tryd.prog 19 #[.agg #[.int .i64 17, .int .i64 a1, .int .i64 a2, .string a3, .bool a4, .int .u64 a5, .int .u64 a6, .int .u64 a7, .int .u64 a8, .int .i64 a9, .int .i64 a10]] w fun e w' => e = .returned (.bool r) ∧ Below w.heap.size w w' := by
  go_enter Tryd.func19, Tryd.ntmps19; go_wp2_with fail; refine (lexis_ownName.calls k a3 r _ hr).mono ?_; rintro e W2 ⟨rfl, hb2⟩; have hB := lexis_right.below2d hb2; clear hb2; go_wp2
  go_ret
  exact ⟨rfl, hB⟩
set_option maxRecDepth 100000 in
set_option maxHeartbeats 2000000 in
theorem lexis_right.w17f (a1 a2 : Int) (a3 : ByteArray) (a4 : Bool) (a5 a6 a7 a8 a9 a10 : Int) (w : World) (hT : (!a4 && ((a5 == 0 && (a6 == 0 && (a7 == 0 && (a8 == 0)))) && (a9 == 0 && (a10 == 0)))) = false) :
    Calls Tryd.prog 19 #[.agg #[.int .i64 17, .int .i64 a1, .int .i64 a2, .string a3, .bool a4, .int .u64 a5, .int .u64 a6, .int .u64 a7, .int .u64 a8, .int .i64 a9, .int .i64 a10]] w fun e w' => e = .returned (.bool false) ∧ Below w.heap.size w w' := by
  go_enter Tryd.func19, Tryd.ntmps19; go_wp2
  go_ret
  exact ⟨rfl, lexis_right.below2 _ _ _⟩
set_option maxRecDepth 100000 in
set_option maxHeartbeats 2000000 in
theorem lexis_right.w9f (a1 a2 : Int) (a3 : ByteArray) (a4 : Bool) (a5 a6 a7 a8 a9 a10 : Int) (w : World) (hT : (a3.toList.isEmpty && (!a4 && (a5 == 0 && (a6 == 0 && (a7 == 0 && (a8 == 0)))))) = false) :
    Calls Tryd.prog 19 #[.agg #[.int .i64 9, .int .i64 a1, .int .i64 a2, .string a3, .bool a4, .int .u64 a5, .int .u64 a6, .int .u64 a7, .int .u64 a8, .int .i64 a9, .int .i64 a10]] w fun e w' => e = .returned (.bool false) ∧ Below w.heap.size w w' := by
  go_enter Tryd.func19, Tryd.ntmps19; go_wp2
  go_ret
  exact ⟨rfl, lexis_right.below2 _ _ _⟩
set_option maxRecDepth 100000 in
set_option maxHeartbeats 2000000 in
theorem lexis_right.w9a (a1 a2 : Int) (a3 : ByteArray) (a4 : Bool) (a5 a6 a7 a8 a9 a10 : Int) (w : World) (hT : (a3.toList.isEmpty && (!a4 && (a5 == 0 && (a6 == 0 && (a7 == 0 && (a8 == 0)))))) = true) (h1 : decide (0 ≤ a9) = false) :
    Calls Tryd.prog 19 #[.agg #[.int .i64 9, .int .i64 a1, .int .i64 a2, .string a3, .bool a4, .int .u64 a5, .int .u64 a6, .int .u64 a7, .int .u64 a8, .int .i64 a9, .int .i64 a10]] w fun e w' => e = .returned (.bool false) ∧ Below w.heap.size w w' := by
  go_enter Tryd.func19, Tryd.ntmps19; go_wp2
  go_ret
  exact ⟨rfl, lexis_right.below2 _ _ _⟩
set_option maxRecDepth 100000 in
set_option maxHeartbeats 2000000 in
theorem lexis_right.w9b (a1 a2 : Int) (a3 : ByteArray) (a4 : Bool) (a5 a6 a7 a8 a9 a10 : Int) (w : World) (hT : (a3.toList.isEmpty && (!a4 && (a5 == 0 && (a6 == 0 && (a7 == 0 && (a8 == 0)))))) = true) (h1 : decide (0 ≤ a9) = true) (h2 : decide (a9 ≤ 255) = false) :
    Calls Tryd.prog 19 #[.agg #[.int .i64 9, .int .i64 a1, .int .i64 a2, .string a3, .bool a4, .int .u64 a5, .int .u64 a6, .int .u64 a7, .int .u64 a8, .int .i64 a9, .int .i64 a10]] w fun e w' => e = .returned (.bool false) ∧ Below w.heap.size w w' := by
  go_enter Tryd.func19, Tryd.ntmps19; go_wp2
  go_ret
  exact ⟨rfl, lexis_right.below2 _ _ _⟩
set_option maxRecDepth 100000 in
set_option maxHeartbeats 2000000 in
theorem lexis_right.w9c (a1 a2 : Int) (a3 : ByteArray) (a4 : Bool) (a5 a6 a7 a8 a9 a10 : Int) (w : World) (hT : (a3.toList.isEmpty && (!a4 && (a5 == 0 && (a6 == 0 && (a7 == 0 && (a8 == 0)))))) = true) (h1 : decide (0 ≤ a9) = true) (h2 : decide (a9 ≤ 255) = true) (h3 : (a10 == -1) = true) :
    Calls Tryd.prog 19 #[.agg #[.int .i64 9, .int .i64 a1, .int .i64 a2, .string a3, .bool a4, .int .u64 a5, .int .u64 a6, .int .u64 a7, .int .u64 a8, .int .i64 a9, .int .i64 a10]] w fun e w' => e = .returned (.bool true) ∧ Below w.heap.size w w' := by
  go_enter Tryd.func19, Tryd.ntmps19; go_wp2
  go_ret
  exact ⟨rfl, lexis_right.below2 _ _ _⟩
set_option maxRecDepth 100000 in
set_option maxHeartbeats 2000000 in
theorem lexis_right.w9d (a1 a2 : Int) (a3 : ByteArray) (a4 : Bool) (a5 a6 a7 a8 a9 a10 : Int) (w : World) (hT : (a3.toList.isEmpty && (!a4 && (a5 == 0 && (a6 == 0 && (a7 == 0 && (a8 == 0)))))) = true) (h1 : decide (0 ≤ a9) = true) (h2 : decide (a9 ≤ 255) = true) (h3 : (a10 == -1) = false) (h4 : decide (a9 ≤ a10) = false) :
    Calls Tryd.prog 19 #[.agg #[.int .i64 9, .int .i64 a1, .int .i64 a2, .string a3, .bool a4, .int .u64 a5, .int .u64 a6, .int .u64 a7, .int .u64 a8, .int .i64 a9, .int .i64 a10]] w fun e w' => e = .returned (.bool false) ∧ Below w.heap.size w w' := by
  go_enter Tryd.func19, Tryd.ntmps19; go_wp2
  go_ret
  exact ⟨rfl, lexis_right.below2 _ _ _⟩
set_option maxRecDepth 100000 in
set_option maxHeartbeats 2000000 in
theorem lexis_right.w9e (a1 a2 : Int) (a3 : ByteArray) (a4 : Bool) (a5 a6 a7 a8 a9 a10 : Int) (w : World) (hT : (a3.toList.isEmpty && (!a4 && (a5 == 0 && (a6 == 0 && (a7 == 0 && (a8 == 0)))))) = true) (h1 : decide (0 ≤ a9) = true) (h2 : decide (a9 ≤ 255) = true) (h3 : (a10 == -1) = false) (h4 : decide (a9 ≤ a10) = true) (b : Bool) (h5 : decide (a10 ≤ 255) = b) :
    Calls Tryd.prog 19 #[.agg #[.int .i64 9, .int .i64 a1, .int .i64 a2, .string a3, .bool a4, .int .u64 a5, .int .u64 a6, .int .u64 a7, .int .u64 a8, .int .i64 a9, .int .i64 a10]] w fun e w' => e = .returned (.bool b) ∧ Below w.heap.size w w' := by
  cases b
  · go_enter Tryd.func19, Tryd.ntmps19; go_wp2
    go_ret
    exact ⟨rfl, lexis_right.below2 _ _ _⟩
  · go_enter Tryd.func19, Tryd.ntmps19; go_wp2
    go_ret
    exact ⟨rfl, lexis_right.below2 _ _ _⟩
set_option maxRecDepth 100000 in
set_option maxHeartbeats 2000000 in
theorem lexis_right.w14 (a1 a2 : Int) (a3 : ByteArray) (a4 : Bool) (a5 a6 a7 a8 a9 a10 : Int) (w : World) (b : Bool) (hT : ((a5 == 0 && (a6 == 0 && (a7 == 0 && (a8 == 0)))) && (a9 == 0 && (a10 == 0))) = b) :
    Calls Tryd.prog 19 #[.agg #[.int .i64 14, .int .i64 a1, .int .i64 a2, .string a3, .bool a4, .int .u64 a5, .int .u64 a6, .int .u64 a7, .int .u64 a8, .int .i64 a9, .int .i64 a10]] w fun e w' => e = .returned (.bool b) ∧ Below w.heap.size w w' := by
  go_enter Tryd.func19, Tryd.ntmps19; go_wp2
  go_ret
  exact ⟨by (rw [← hT]) <;> simp [Bool.and_assoc], lexis_right.below2 _ _ _⟩
set_option maxRecDepth 100000 in
set_option maxHeartbeats 2000000 in
theorem lexis_right.w15 (a1 a2 : Int) (a3 : ByteArray) (a4 : Bool) (a5 a6 a7 a8 a9 a10 : Int) (w : World) (b : Bool) (hT : (a3.toList.isEmpty && (!a4 && (a9 == 0 && (a10 == 0)))) = b) :
    Calls Tryd.prog 19 #[.agg #[.int .i64 15, .int .i64 a1, .int .i64 a2, .string a3, .bool a4, .int .u64 a5, .int .u64 a6, .int .u64 a7, .int .u64 a8, .int .i64 a9, .int .i64 a10]] w fun e w' => e = .returned (.bool b) ∧ Below w.heap.size w w' := by
  go_enter Tryd.func19, Tryd.ntmps19; go_wp2
  go_ret
  exact ⟨by (rw [← hT]) <;> simp [Bool.and_assoc], lexis_right.below2 _ _ _⟩
set_option maxRecDepth 100000 in
set_option maxHeartbeats 2000000 in
theorem lexis_right.wda (a1 a2 : Int) (a3 : ByteArray) (a4 : Bool) (a5 a6 a7 a8 a9 a10 : Int) (w : World) (a0 : Int) (d1 : (a0 == 1) = false) (d2 : (a0 == 16) = false) (d3 : (a0 == 17) = false) (d4 : (a0 == 9) = false) (d5 : (a0 == 14) = false) (d6 : (a0 == 15) = false) (h1 : decide (0 ≤ a0) = false) :
    Calls Tryd.prog 19 #[.agg #[.int .i64 a0, .int .i64 a1, .int .i64 a2, .string a3, .bool a4, .int .u64 a5, .int .u64 a6, .int .u64 a7, .int .u64 a8, .int .i64 a9, .int .i64 a10]] w fun e w' => e = .returned (.bool false) ∧ Below w.heap.size w w' := by
  go_enter Tryd.func19, Tryd.ntmps19; go_wp2
  go_ret
  exact ⟨rfl, lexis_right.below2 _ _ _⟩
set_option maxRecDepth 100000 in
set_option maxHeartbeats 2000000 in
theorem lexis_right.wdb (a1 a2 : Int) (a3 : ByteArray) (a4 : Bool) (a5 a6 a7 a8 a9 a10 : Int) (w : World) (a0 : Int) (d1 : (a0 == 1) = false) (d2 : (a0 == 16) = false) (d3 : (a0 == 17) = false) (d4 : (a0 == 9) = false) (d5 : (a0 == 14) = false) (d6 : (a0 == 15) = false) (h1 : decide (0 ≤ a0) = true) (h2 : decide (a0 ≤ 17) = false) :
    Calls Tryd.prog 19 #[.agg #[.int .i64 a0, .int .i64 a1, .int .i64 a2, .string a3, .bool a4, .int .u64 a5, .int .u64 a6, .int .u64 a7, .int .u64 a8, .int .i64 a9, .int .i64 a10]] w fun e w' => e = .returned (.bool false) ∧ Below w.heap.size w w' := by
  go_enter Tryd.func19, Tryd.ntmps19; go_wp2
  go_ret
  exact ⟨rfl, lexis_right.below2 _ _ _⟩
set_option maxRecDepth 100000 in
set_option maxHeartbeats 2000000 in
theorem lexis_right.wdc (a1 a2 : Int) (a3 : ByteArray) (a4 : Bool) (a5 a6 a7 a8 a9 a10 : Int) (w : World) (a0 : Int) (d1 : (a0 == 1) = false) (d2 : (a0 == 16) = false) (d3 : (a0 == 17) = false) (d4 : (a0 == 9) = false) (d5 : (a0 == 14) = false) (d6 : (a0 == 15) = false) (h1 : decide (0 ≤ a0) = true) (h2 : decide (a0 ≤ 17) = true) (b : Bool) (hT : (a3.toList.isEmpty && (!a4 && ((a5 == 0 && (a6 == 0 && (a7 == 0 && (a8 == 0)))) && (a9 == 0 && (a10 == 0))))) = b) :
    Calls Tryd.prog 19 #[.agg #[.int .i64 a0, .int .i64 a1, .int .i64 a2, .string a3, .bool a4, .int .u64 a5, .int .u64 a6, .int .u64 a7, .int .u64 a8, .int .i64 a9, .int .i64 a10]] w fun e w' => e = .returned (.bool b) ∧ Below w.heap.size w w' := by
  go_enter Tryd.func19, Tryd.ntmps19; go_wp2
  go_ret
  exact ⟨by (rw [← hT]) <;> simp [Bool.and_assoc], lexis_right.below2 _ _ _⟩
set_option maxRecDepth 100000 in
theorem lexis_right.calls (k : Nat) (a0_0 : Int) (a0_1 : Int) (a0_2 : Int) (a0_3 : ByteArray) (a0_4 : Bool) (a0_5 : Int) (a0_6 : Int) (a0_7 : Int) (a0_8 : Int) (a0_9 : Int) (a0_10 : Int) (r : Bool) (w : World) (h : lexis_right.f k a0_0 a0_1 a0_2 a0_3 a0_4 a0_5 a0_6 a0_7 a0_8 a0_9 a0_10 = some r) :
    Calls Tryd.prog 19 #[.agg #[.int .i64 a0_0, .int .i64 a0_1, .int .i64 a0_2, .string a0_3, .bool a0_4, .int .u64 a0_5, .int .u64 a0_6, .int .u64 a0_7, .int .u64 a0_8, .int .i64 a0_9, .int .i64 a0_10]] w fun e w' => e = .returned (.bool r) ∧ Below w.heap.size w w' := by
  generalize a0_1 = a1, a0_2 = a2, a0_3 = a3, a0_4 = a4, a0_5 = a5, a0_6 = a6, a0_7 = a7, a0_8 = a8, a0_9 = a9, a0_10 = a10 at *
  by_cases e1 : a0_0 = 1
  · subst e1; unfold lexis_right.f at h; rw [if_pos rfl] at h
    split at h
    · next hT =>
      obtain ⟨b, hb, hq⟩ := Option.bind_eq_some_iff.1 h; obtain rfl := Option.some.inj hq; exact lexis_right.w1 _ _ _ _ _ _ _ _ _ _ _ k b hT hb
    · next hT =>
      obtain rfl := Option.some.inj h; exact lexis_right.w1f _ _ _ _ _ _ _ _ _ _ _ (by simpa using hT)
  have hj : ∃ x : Bool, (x = true ↔ (a0_0 = 16 ∨ a0_0 = 17)) ∧ lexis_right.j0 k a0_0 x a0_0 0 0 a3 a4 a5 a6 a7 a8 a9 a10 0 0 0 a3 a4 a5 a6 a7 a8 a9 a10 = some r := by
    unfold lexis_right.f at h; rw [if_neg e1] at h
    split at h
    · next q => exact ⟨_, by simp [q], h⟩
    · next q => exact ⟨_, by simp [q], h⟩
  clear h; obtain ⟨x, hx, h⟩ := hj
  obtain ⟨k, rfl⟩ : ∃ m, k = m + 1 := by
    cases k with
    | zero => simp [lexis_right.j0] at h
    | succ m => exact ⟨m, rfl⟩
  rw [lexis_right.j0.eq_def] at h; simp only [beq_self_eq_true, Bool.true_and] at h
  by_cases e2 : x = true
  · rw [if_pos e2] at h
    split at h
    · next hT =>
      obtain ⟨b, hb, hq⟩ := Option.bind_eq_some_iff.1 h; obtain rfl := Option.some.inj hq
      rcases hx.1 e2 with q | q <;> subst q
      · exact lexis_right.w16 _ _ _ _ _ _ _ _ _ _ _ k b hT hb
      · exact lexis_right.w17 _ _ _ _ _ _ _ _ _ _ _ k b hT hb
    · next hT =>
      obtain rfl := Option.some.inj h
      rcases hx.1 e2 with q | q <;> subst q
      · exact lexis_right.w16f _ _ _ _ _ _ _ _ _ _ _ (by simpa using hT)
      · exact lexis_right.w17f _ _ _ _ _ _ _ _ _ _ _ (by simpa using hT)
  rw [if_neg e2] at h
  have n1 : ¬ a0_0 = 16 := fun q => e2 (hx.2 (.inl q))
  have n2 : ¬ a0_0 = 17 := fun q => e2 (hx.2 (.inr q))
  clear hx e2
  by_cases e3 : a0_0 = 9
  · rw [if_pos e3] at h; subst e3
    split at h
    · next hT =>
      split at h
      · next c1 =>
        split at h
        · next c2 =>
          split at h
          · next c3 =>
            obtain rfl := Option.some.inj h; exact lexis_right.w9c _ _ _ _ _ _ _ _ _ _ _ (by simpa using hT) (decide_eq_true c1) (decide_eq_true c2) (by simp [c3])
          · next c3 =>
            split at h
            · next c4 =>
              obtain rfl := Option.some.inj h; exact lexis_right.w9e _ _ _ _ _ _ _ _ _ _ _ (by simpa using hT) (decide_eq_true c1) (decide_eq_true c2) (by simp [c3]) (decide_eq_true c4) _ rfl
            · next c4 =>
              obtain rfl := Option.some.inj h; exact lexis_right.w9d _ _ _ _ _ _ _ _ _ _ _ (by simpa using hT) (decide_eq_true c1) (decide_eq_true c2) (by simp [c3]) (decide_eq_false c4)
        · next c2 =>
          obtain rfl := Option.some.inj h; exact lexis_right.w9b _ _ _ _ _ _ _ _ _ _ _ (by simpa using hT) (decide_eq_true c1) (decide_eq_false c2)
      · next c1 =>
        obtain rfl := Option.some.inj h; exact lexis_right.w9a _ _ _ _ _ _ _ _ _ _ _ (by simpa using hT) (decide_eq_false c1)
    · next hT =>
      obtain rfl := Option.some.inj h; exact lexis_right.w9f _ _ _ _ _ _ _ _ _ _ _ (by simpa using Bool.eq_false_iff.2 hT)
  rw [if_neg e3] at h
  by_cases e4 : a0_0 = 14
  · rw [if_pos e4] at h; subst e4; exact lexis_right.w14 _ _ _ _ _ _ _ _ _ _ _ r (by simpa using Option.some.inj h)
  rw [if_neg e4] at h
  by_cases e5 : a0_0 = 15
  · rw [if_pos e5] at h; subst e5; exact lexis_right.w15 _ _ _ _ _ _ _ _ _ _ _ r (by simpa using Option.some.inj h)
  rw [if_neg e5] at h
  have d1 : (a0_0 == 1) = false := by simp [e1]
  have d2 : (a0_0 == 16) = false := by simp [n1]
  have d3 : (a0_0 == 17) = false := by simp [n2]
  have d4 : (a0_0 == 9) = false := by simp [e3]
  have d5 : (a0_0 == 14) = false := by simp [e4]
  have d6 : (a0_0 == 15) = false := by simp [e5]
  split at h
  · next c1 =>
    split at h
    · next c2 => exact lexis_right.wdc _ _ _ _ _ _ _ _ _ _ _ a0_0 d1 d2 d3 d4 d5 d6 (decide_eq_true c1) (decide_eq_true c2) r (by simpa using Option.some.inj h)
    · next c2 =>
      obtain rfl := Option.some.inj h; exact lexis_right.wdb _ _ _ _ _ _ _ _ _ _ _ a0_0 d1 d2 d3 d4 d5 d6 (decide_eq_true c1) (decide_eq_false c2)
  · next c1 =>
    obtain rfl := Option.some.inj h; exact lexis_right.wda _ _ _ _ _ _ _ _ _ _ _ a0_0 d1 d2 d3 d4 d5 d6 (decide_eq_false c1)
end Go.Proofs.YtldjdcdoegjmoaaDoor.P
