import Derived.Test.YtflkgoggnomehaaZ4
import Derived.Test.YtflkgoggnomehaaZ5
set_option linter.unusedVariables false
set_option linter.unusedSimpArgs false
namespace Go.Proofs.Ytflkgoggnomehaa
open Go.RowKit
def OwnRng (w : World) (l : List (Nat × Nat)) (e : Ending) (w' : World) : Prop := ∃ v, e = .returned v ∧ w'.ownsRow w.heap.size 158 2 v l.length (rcells l) ∧ Below w.heap.size w w'
set_option maxRecDepth 100000 in
set_option maxHeartbeats 1000000 in
theorem rangesR_c (a : Cls) (ha : a.ok) (w : World) : Calls Try.prog 118 #[V4 a] w (OwnRng w (rangesL a)) := by
  have HA := Lib.hid ha; clear ha
  have hv := zeroSet.1
  go_enter Try.func118, Try.ntmps118
  go_wp2_with (first | (go_at_call 114; refine (open_c a HA.out _).mono ?_; rintro e w1 ⟨rfl, hb1⟩; unfold setVal) | (refine wpList_store_row rfl 168 _ _ rfl w1.heap.size (setCells a.mem) rfl rfl _ _ (heap_new _ _) (infoSet _) (by rw [setCells_size]; rfl) (setCells_one _) ?_; rw [World.setRow_alloc_new]))
  have hz := hb1.size
  have hb := ((Below.refl _ _).alloc (Nat.le_refl _) _).trans (hb1.mono (by simp))
  simp only [World.size_alloc] at hz
  have HB1 := Lib.hid hb; clear hb1 hb
  go_loopw [4, 5] (fun v i wr => ∃ (k : Nat) (L : List (Nat × Nat)), k ≤ 256 ∧ i = .int .i64 k ∧ Below w.heap.size w wr ∧ w.heap.size < w1.heap.size ∧
      wr.heap[w1.heap.size]? = some (.cells (setCells a.mem) 168 (0, 0)) ∧ Runs L k a.mem ∧ L.length ≤ k ∧ wr.ownsRow w.heap.size 158 2 v L.length (rcells L)) (fun _ i _ => 256 - (intOf i).toNat)
  case atStart =>
    exact ⟨0, [], by omega, rfl, HB1.out.alloc (by omega) _, by omega, heap_new _ _, runs_nil _, by simp, World.ownsRow_nil _ _ _ _⟩
  case round =>
    obtain ⟨k, L, hk, rfl, hB, hl, h2, hR, hL, hO⟩ := hrel
    obtain ⟨wo, rfl⟩ : ∃ wo : World, wo = wr := ⟨_, rfl⟩
    by_cases hlt : k < 256
    · have c2 : wo.cell? ⟨w1.heap.size, k, none⟩ = some (.bool (a.mem k)) := by rw [cell_of_row _ _ _ _ _ _ h2, setCells_at _ _ hlt]
      have H2 := Lib.hid h2; have HO := Lib.hid hO; have HB := Lib.hid hB; have hs := hB.size; have HR := Lib.hid hR; clear h2 hO hB hR
      cases hf : a.mem k
      · rw [hf] at c2
        have HF := Lib.hid hf; clear hf
        go_wp2
        go_roundw
        case rel => exact ⟨k + 1, L, by omega, by go_num, HB.out, hl, H2.out, runs_no HR.out (.inl HF.out), by omega, HO.out⟩
        case measure => simp [intOf]; omega
      · rw [hf] at c2
        have HF := Lib.hid hf; clear hf
        by_cases hp : k ≠ 0 ∧ a.mem (k - 1) = true
        · obtain ⟨hk0, hp⟩ := hp
          have c3 : wo.cell? ⟨w1.heap.size, k - 1, none⟩ = some (.bool true) := by rw [cell_of_row _ _ _ _ _ _ H2.out, setCells_at _ _ (by omega), hp]
          have HP := Lib.hid hp; clear hp
          have hki : (1 : Int) ≤ (k : Int) := by omega
          have hk1 : ((k : Int) - 1).toNat = k - 1 := by omega
          go_wp2
          go_roundw
          case rel => exact ⟨k + 1, L, by omega, by go_num, HB.out, hl, H2.out, runs_no HR.out (.inr ⟨hk0, HP.out⟩), by omega, HO.out⟩
          case measure => simp [intOf]; omega
        · have hst : k = 0 ∨ a.mem (k - 1) = false := by
            by_cases e : k = 0
            · exact .inl e
            · exact .inr (by rcases q : a.mem (k - 1) with _ | _; rfl; exact absurd ⟨e, q⟩ hp)
          have c3 : k ≠ 0 → wo.cell? ⟨w1.heap.size, k - 1, none⟩ = some (.bool false) := fun e => by
            rcases hst with h | h
            · exact absurd h e
            · rw [cell_of_row _ _ _ _ _ _ H2.out, setCells_at _ _ (by omega), h]
          have HS := Lib.hid hst; clear hst hp
          have HF2 := Lib.hid (fun j (h1 : k ≤ j) (h2 : j ≤ k) => show a.mem j = true from (show k = j by omega) ▸ HF.out)
          have C3 := Lib.hid c3; clear c3
          by_cases hk0 : k = 0
          all_goals
            first
              | have ek : ((k : Int) == 0) = true := by simp [hk0]
              | (have c3 := C3.out hk0; have ek : ((k : Int) == 0) = false := by simp [hk0]
                 have hki : (1 : Int) ≤ (k : Int) := by omega
                 have hk1 : ((k : Int) - 1).toNat = k - 1 := by omega)
            clear hk0
            have ek2 : decide ((k : Int) < 256) = true := by simp; omega
            go_wp2
            go_loopw [6] (fun x wq => ∃ m : Nat, k ≤ m ∧ m ≤ 255 ∧ x = .int .i64 m ∧ Hid (∀ j, k ≤ j → j ≤ m → a.mem j = true) ∧ wq = wo) (fun x _ => 255 - (intOf x).toNat)
            case atStart => exact ⟨k, Nat.le_refl _, by omega, rfl, HF2, rfl⟩
            case round =>
              obtain ⟨m, hm1, hm2, rfl, HM, rfl⟩ := hrel
              by_cases hm : m < 255
              · have c4 : wr.cell? ⟨w1.heap.size, m + 1, none⟩ = some (.bool (a.mem (m + 1))) := by rw [cell_of_row _ _ _ _ _ _ H2.out, setCells_at _ _ (by omega)]
                cases hf2 : a.mem (m + 1)
                · rw [hf2] at c4
                  have HF3 := Lib.hid hf2; clear hf2
                  go_wp2_with (at_builtin; go_must (refine app1 w.heap.size rfl (.tmp 38) (.tmp 44) 155 158 (.agg #[.int .u8 0, .int .u8 0]) 2 2 rfl Try.underlying155 infoRng rfl (by decide) _ _ _ #[.int .u8 (k : Int), .int .u8 (m : Int)] rfl (by simp [Value.oneCell']) rfl rfl HO.out HB.out hs (by omega) (by omega) ?_); intro g c w2 hO2 hB2 hk2 hs2)
                  go_roundw
                  case rel =>
                    refine ⟨k + 1, L ++ [(k, m)], by omega, by go_num, hB2, hl, hk2 _ _ H2.out (own_ne HO.out H2.out (by decide)), runs_yes HR.out HS.out hm1 (by omega) HM.out (.inr HF3.out), by rw [List.length_append]; simp; omega, ?_⟩
                    rw [rcells_snoc, List.length_append]
                    exact hO2
                  case measure => simp [intOf]; omega
                · rw [hf2] at c4
                  have HF3 := Lib.hid hf2; clear hf2
                  go_wp2
                  go_roundw
                  case rel =>
                    refine ⟨m + 1, by omega, by omega, by go_num, fun j h1 h2 => ?_, by trivial⟩
                    by_cases e : j = m + 1
                    · rw [e]; exact HF3.out
                    · exact HM.out j h1 (by omega)
                  case measure => simp [intOf]; omega
              · go_wp2_with (at_builtin; go_must (refine app1 w.heap.size rfl (.tmp 38) (.tmp 44) 155 158 (.agg #[.int .u8 0, .int .u8 0]) 2 2 rfl Try.underlying155 infoRng rfl (by decide) _ _ _ #[.int .u8 (k : Int), .int .u8 (m : Int)] rfl (by simp [Value.oneCell']) rfl rfl HO.out HB.out hs (by omega) (by omega) ?_); intro g c w2 hO2 hB2 hk2 hs2)
                go_roundw
                case rel =>
                  refine ⟨k + 1, L ++ [(k, m)], by omega, by go_num, hB2, hl, hk2 _ _ H2.out (own_ne HO.out H2.out (by decide)), runs_yes HR.out HS.out hm1 (by omega) HM.out (.inl (by omega)), by rw [List.length_append]; simp; omega, ?_⟩
                  rw [rcells_snoc, List.length_append]
                  exact hO2
                case measure => simp [intOf]; omega
    · obtain rfl : k = 256 := by omega
      have hfin := runs_good hR (good_ranges a)
      have HFin := Lib.hid hfin; clear hfin
      have H2 := Lib.hid h2; have HO := Lib.hid hO; have HB := Lib.hid hB; have hs := hB.size; clear h2 hO hB hR
      go_wp2
      go_ret
      exact ⟨_, rfl, by rw [← HFin.out]; exact HO.out, HB.out⟩
end Go.Proofs.Ytflkgoggnomehaa
