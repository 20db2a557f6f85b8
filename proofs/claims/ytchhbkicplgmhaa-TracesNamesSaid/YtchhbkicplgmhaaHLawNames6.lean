/- The law TracesNames: its function answers true. -/
import Derived.Test.YtchhbkicplgmhaaHNames6
namespace Go.Proofs.Ytchhbkicplgmhaa.PH
open Go.RowKit Go.Proofs.YtchhbkicplgmhaaW.PrintWords Go.Proofs.YtchhbkicplgmhaaW.PrintLast
set_option linter.unusedVariables false
set_option linter.unusedSimpArgs false

theorem na_start (w : World) : NaI w (w.heap.size + 1 + 1 + 1) (w.heap.size + 1 + 1 + 1 + 1 + 1 + 1 + 1 + 1 + 1) ⟨some ⟨w.heap.size, 0, none⟩, 3, none, 0, some ⟨w.heap.size + 1, 0, none⟩, 3, some ⟨w.heap.size + 1 + 1, 0, none⟩, 1⟩ ⟨some ⟨w.heap.size + 1 + 1 + 1 + 1, 0, none⟩, 3, some ⟨w.heap.size + 1 + 1 + 1 + 1 + 1 + 1 + 1 + 1, 0, none⟩, 3⟩ ((((((((((w.alloc (.cells #[.int .i64 2, .int .i64 0, .int .i64 6, .int .i64 1, .int .i64 4, .int .i64 2] 65)).alloc (.cells #[.int .i64 0, .int .i64 4, .int .i64 6] 3)).alloc (.cells #[.int .i64 3] 3)).alloc (.cells #[.int .i64 1, .slice (some ⟨w.heap.size, 0, none⟩) 3 3, .slice none 0 0, .slice (some ⟨w.heap.size + 1, 0, none⟩) 3 3, .slice (some ⟨w.heap.size + 1 + 1, 0, none⟩) 1 1] 26)).alloc (.cells #[.bool false, .bool true, .bool true] 4)).alloc (.cells #[.bool false] 4)).alloc (.cells #[.bool false] 4)).alloc (.cells #[.bool true] 4)).alloc (.cells #[.slice (some ⟨w.heap.size + 1 + 1 + 1 + 1 + 1, 0, none⟩) 1 1, .slice (some ⟨w.heap.size + 1 + 1 + 1 + 1 + 1 + 1, 0, none⟩) 1 1, .slice (some ⟨w.heap.size + 1 + 1 + 1 + 1 + 1 + 1 + 1, 0, none⟩) 1 1] 27)).alloc (.cells #[.slice (some ⟨w.heap.size + 1 + 1 + 1 + 1, 0, none⟩) 3 3, .slice (some ⟨w.heap.size + 1 + 1 + 1 + 1 + 1 + 1 + 1 + 1, 0, none⟩) 3 3] 30)) := by
  have b0 : (w.alloc (.cells #[.int .i64 2, .int .i64 0, .int .i64 6, .int .i64 1, .int .i64 4, .int .i64 2] 65)).heap[w.heap.size]? = some (.cells #[.int .i64 2, .int .i64 0, .int .i64 6, .int .i64 1, .int .i64 4, .int .i64 2] 65 (0, 0)) := by simpa using blk_new w (.cells #[.int .i64 2, .int .i64 0, .int .i64 6, .int .i64 1, .int .i64 4, .int .i64 2] 65)
  have b1 : ((w.alloc (.cells #[.int .i64 2, .int .i64 0, .int .i64 6, .int .i64 1, .int .i64 4, .int .i64 2] 65)).alloc (.cells #[.int .i64 0, .int .i64 4, .int .i64 6] 3)).heap[w.heap.size + 1]? = some (.cells #[.int .i64 0, .int .i64 4, .int .i64 6] 3 (0, 0)) := by simpa using blk_new (w.alloc (.cells #[.int .i64 2, .int .i64 0, .int .i64 6, .int .i64 1, .int .i64 4, .int .i64 2] 65)) (.cells #[.int .i64 0, .int .i64 4, .int .i64 6] 3)
  have b2 : (((w.alloc (.cells #[.int .i64 2, .int .i64 0, .int .i64 6, .int .i64 1, .int .i64 4, .int .i64 2] 65)).alloc (.cells #[.int .i64 0, .int .i64 4, .int .i64 6] 3)).alloc (.cells #[.int .i64 3] 3)).heap[w.heap.size + 1 + 1]? = some (.cells #[.int .i64 3] 3 (0, 0)) := by simpa using blk_new ((w.alloc (.cells #[.int .i64 2, .int .i64 0, .int .i64 6, .int .i64 1, .int .i64 4, .int .i64 2] 65)).alloc (.cells #[.int .i64 0, .int .i64 4, .int .i64 6] 3)) (.cells #[.int .i64 3] 3)
  have b3 : ((((w.alloc (.cells #[.int .i64 2, .int .i64 0, .int .i64 6, .int .i64 1, .int .i64 4, .int .i64 2] 65)).alloc (.cells #[.int .i64 0, .int .i64 4, .int .i64 6] 3)).alloc (.cells #[.int .i64 3] 3)).alloc (.cells #[.int .i64 1, .slice (some ⟨w.heap.size, 0, none⟩) 3 3, .slice none 0 0, .slice (some ⟨w.heap.size + 1, 0, none⟩) 3 3, .slice (some ⟨w.heap.size + 1 + 1, 0, none⟩) 1 1] 26)).heap[w.heap.size + 1 + 1 + 1]? = some (.cells #[.int .i64 1, .slice (some ⟨w.heap.size, 0, none⟩) 3 3, .slice none 0 0, .slice (some ⟨w.heap.size + 1, 0, none⟩) 3 3, .slice (some ⟨w.heap.size + 1 + 1, 0, none⟩) 1 1] 26 (0, 0)) := by simpa using blk_new (((w.alloc (.cells #[.int .i64 2, .int .i64 0, .int .i64 6, .int .i64 1, .int .i64 4, .int .i64 2] 65)).alloc (.cells #[.int .i64 0, .int .i64 4, .int .i64 6] 3)).alloc (.cells #[.int .i64 3] 3)) (.cells #[.int .i64 1, .slice (some ⟨w.heap.size, 0, none⟩) 3 3, .slice none 0 0, .slice (some ⟨w.heap.size + 1, 0, none⟩) 3 3, .slice (some ⟨w.heap.size + 1 + 1, 0, none⟩) 1 1] 26)
  have b4 : (((((w.alloc (.cells #[.int .i64 2, .int .i64 0, .int .i64 6, .int .i64 1, .int .i64 4, .int .i64 2] 65)).alloc (.cells #[.int .i64 0, .int .i64 4, .int .i64 6] 3)).alloc (.cells #[.int .i64 3] 3)).alloc (.cells #[.int .i64 1, .slice (some ⟨w.heap.size, 0, none⟩) 3 3, .slice none 0 0, .slice (some ⟨w.heap.size + 1, 0, none⟩) 3 3, .slice (some ⟨w.heap.size + 1 + 1, 0, none⟩) 1 1] 26)).alloc (.cells #[.bool false, .bool true, .bool true] 4)).heap[w.heap.size + 1 + 1 + 1 + 1]? = some (.cells #[.bool false, .bool true, .bool true] 4 (0, 0)) := by simpa using blk_new ((((w.alloc (.cells #[.int .i64 2, .int .i64 0, .int .i64 6, .int .i64 1, .int .i64 4, .int .i64 2] 65)).alloc (.cells #[.int .i64 0, .int .i64 4, .int .i64 6] 3)).alloc (.cells #[.int .i64 3] 3)).alloc (.cells #[.int .i64 1, .slice (some ⟨w.heap.size, 0, none⟩) 3 3, .slice none 0 0, .slice (some ⟨w.heap.size + 1, 0, none⟩) 3 3, .slice (some ⟨w.heap.size + 1 + 1, 0, none⟩) 1 1] 26)) (.cells #[.bool false, .bool true, .bool true] 4)
  have b5 : ((((((w.alloc (.cells #[.int .i64 2, .int .i64 0, .int .i64 6, .int .i64 1, .int .i64 4, .int .i64 2] 65)).alloc (.cells #[.int .i64 0, .int .i64 4, .int .i64 6] 3)).alloc (.cells #[.int .i64 3] 3)).alloc (.cells #[.int .i64 1, .slice (some ⟨w.heap.size, 0, none⟩) 3 3, .slice none 0 0, .slice (some ⟨w.heap.size + 1, 0, none⟩) 3 3, .slice (some ⟨w.heap.size + 1 + 1, 0, none⟩) 1 1] 26)).alloc (.cells #[.bool false, .bool true, .bool true] 4)).alloc (.cells #[.bool false] 4)).heap[w.heap.size + 1 + 1 + 1 + 1 + 1]? = some (.cells #[.bool false] 4 (0, 0)) := by simpa using blk_new (((((w.alloc (.cells #[.int .i64 2, .int .i64 0, .int .i64 6, .int .i64 1, .int .i64 4, .int .i64 2] 65)).alloc (.cells #[.int .i64 0, .int .i64 4, .int .i64 6] 3)).alloc (.cells #[.int .i64 3] 3)).alloc (.cells #[.int .i64 1, .slice (some ⟨w.heap.size, 0, none⟩) 3 3, .slice none 0 0, .slice (some ⟨w.heap.size + 1, 0, none⟩) 3 3, .slice (some ⟨w.heap.size + 1 + 1, 0, none⟩) 1 1] 26)).alloc (.cells #[.bool false, .bool true, .bool true] 4)) (.cells #[.bool false] 4)
  have b6 : (((((((w.alloc (.cells #[.int .i64 2, .int .i64 0, .int .i64 6, .int .i64 1, .int .i64 4, .int .i64 2] 65)).alloc (.cells #[.int .i64 0, .int .i64 4, .int .i64 6] 3)).alloc (.cells #[.int .i64 3] 3)).alloc (.cells #[.int .i64 1, .slice (some ⟨w.heap.size, 0, none⟩) 3 3, .slice none 0 0, .slice (some ⟨w.heap.size + 1, 0, none⟩) 3 3, .slice (some ⟨w.heap.size + 1 + 1, 0, none⟩) 1 1] 26)).alloc (.cells #[.bool false, .bool true, .bool true] 4)).alloc (.cells #[.bool false] 4)).alloc (.cells #[.bool false] 4)).heap[w.heap.size + 1 + 1 + 1 + 1 + 1 + 1]? = some (.cells #[.bool false] 4 (0, 0)) := by simpa using blk_new ((((((w.alloc (.cells #[.int .i64 2, .int .i64 0, .int .i64 6, .int .i64 1, .int .i64 4, .int .i64 2] 65)).alloc (.cells #[.int .i64 0, .int .i64 4, .int .i64 6] 3)).alloc (.cells #[.int .i64 3] 3)).alloc (.cells #[.int .i64 1, .slice (some ⟨w.heap.size, 0, none⟩) 3 3, .slice none 0 0, .slice (some ⟨w.heap.size + 1, 0, none⟩) 3 3, .slice (some ⟨w.heap.size + 1 + 1, 0, none⟩) 1 1] 26)).alloc (.cells #[.bool false, .bool true, .bool true] 4)).alloc (.cells #[.bool false] 4)) (.cells #[.bool false] 4)
  have b7 : ((((((((w.alloc (.cells #[.int .i64 2, .int .i64 0, .int .i64 6, .int .i64 1, .int .i64 4, .int .i64 2] 65)).alloc (.cells #[.int .i64 0, .int .i64 4, .int .i64 6] 3)).alloc (.cells #[.int .i64 3] 3)).alloc (.cells #[.int .i64 1, .slice (some ⟨w.heap.size, 0, none⟩) 3 3, .slice none 0 0, .slice (some ⟨w.heap.size + 1, 0, none⟩) 3 3, .slice (some ⟨w.heap.size + 1 + 1, 0, none⟩) 1 1] 26)).alloc (.cells #[.bool false, .bool true, .bool true] 4)).alloc (.cells #[.bool false] 4)).alloc (.cells #[.bool false] 4)).alloc (.cells #[.bool true] 4)).heap[w.heap.size + 1 + 1 + 1 + 1 + 1 + 1 + 1]? = some (.cells #[.bool true] 4 (0, 0)) := by simpa using blk_new (((((((w.alloc (.cells #[.int .i64 2, .int .i64 0, .int .i64 6, .int .i64 1, .int .i64 4, .int .i64 2] 65)).alloc (.cells #[.int .i64 0, .int .i64 4, .int .i64 6] 3)).alloc (.cells #[.int .i64 3] 3)).alloc (.cells #[.int .i64 1, .slice (some ⟨w.heap.size, 0, none⟩) 3 3, .slice none 0 0, .slice (some ⟨w.heap.size + 1, 0, none⟩) 3 3, .slice (some ⟨w.heap.size + 1 + 1, 0, none⟩) 1 1] 26)).alloc (.cells #[.bool false, .bool true, .bool true] 4)).alloc (.cells #[.bool false] 4)).alloc (.cells #[.bool false] 4)) (.cells #[.bool true] 4)
  have b8 : (((((((((w.alloc (.cells #[.int .i64 2, .int .i64 0, .int .i64 6, .int .i64 1, .int .i64 4, .int .i64 2] 65)).alloc (.cells #[.int .i64 0, .int .i64 4, .int .i64 6] 3)).alloc (.cells #[.int .i64 3] 3)).alloc (.cells #[.int .i64 1, .slice (some ⟨w.heap.size, 0, none⟩) 3 3, .slice none 0 0, .slice (some ⟨w.heap.size + 1, 0, none⟩) 3 3, .slice (some ⟨w.heap.size + 1 + 1, 0, none⟩) 1 1] 26)).alloc (.cells #[.bool false, .bool true, .bool true] 4)).alloc (.cells #[.bool false] 4)).alloc (.cells #[.bool false] 4)).alloc (.cells #[.bool true] 4)).alloc (.cells #[.slice (some ⟨w.heap.size + 1 + 1 + 1 + 1 + 1, 0, none⟩) 1 1, .slice (some ⟨w.heap.size + 1 + 1 + 1 + 1 + 1 + 1, 0, none⟩) 1 1, .slice (some ⟨w.heap.size + 1 + 1 + 1 + 1 + 1 + 1 + 1, 0, none⟩) 1 1] 27)).heap[w.heap.size + 1 + 1 + 1 + 1 + 1 + 1 + 1 + 1]? = some (.cells #[.slice (some ⟨w.heap.size + 1 + 1 + 1 + 1 + 1, 0, none⟩) 1 1, .slice (some ⟨w.heap.size + 1 + 1 + 1 + 1 + 1 + 1, 0, none⟩) 1 1, .slice (some ⟨w.heap.size + 1 + 1 + 1 + 1 + 1 + 1 + 1, 0, none⟩) 1 1] 27 (0, 0)) := by simpa using blk_new ((((((((w.alloc (.cells #[.int .i64 2, .int .i64 0, .int .i64 6, .int .i64 1, .int .i64 4, .int .i64 2] 65)).alloc (.cells #[.int .i64 0, .int .i64 4, .int .i64 6] 3)).alloc (.cells #[.int .i64 3] 3)).alloc (.cells #[.int .i64 1, .slice (some ⟨w.heap.size, 0, none⟩) 3 3, .slice none 0 0, .slice (some ⟨w.heap.size + 1, 0, none⟩) 3 3, .slice (some ⟨w.heap.size + 1 + 1, 0, none⟩) 1 1] 26)).alloc (.cells #[.bool false, .bool true, .bool true] 4)).alloc (.cells #[.bool false] 4)).alloc (.cells #[.bool false] 4)).alloc (.cells #[.bool true] 4)) (.cells #[.slice (some ⟨w.heap.size + 1 + 1 + 1 + 1 + 1, 0, none⟩) 1 1, .slice (some ⟨w.heap.size + 1 + 1 + 1 + 1 + 1 + 1, 0, none⟩) 1 1, .slice (some ⟨w.heap.size + 1 + 1 + 1 + 1 + 1 + 1 + 1, 0, none⟩) 1 1] 27)
  have b9 : ((((((((((w.alloc (.cells #[.int .i64 2, .int .i64 0, .int .i64 6, .int .i64 1, .int .i64 4, .int .i64 2] 65)).alloc (.cells #[.int .i64 0, .int .i64 4, .int .i64 6] 3)).alloc (.cells #[.int .i64 3] 3)).alloc (.cells #[.int .i64 1, .slice (some ⟨w.heap.size, 0, none⟩) 3 3, .slice none 0 0, .slice (some ⟨w.heap.size + 1, 0, none⟩) 3 3, .slice (some ⟨w.heap.size + 1 + 1, 0, none⟩) 1 1] 26)).alloc (.cells #[.bool false, .bool true, .bool true] 4)).alloc (.cells #[.bool false] 4)).alloc (.cells #[.bool false] 4)).alloc (.cells #[.bool true] 4)).alloc (.cells #[.slice (some ⟨w.heap.size + 1 + 1 + 1 + 1 + 1, 0, none⟩) 1 1, .slice (some ⟨w.heap.size + 1 + 1 + 1 + 1 + 1 + 1, 0, none⟩) 1 1, .slice (some ⟨w.heap.size + 1 + 1 + 1 + 1 + 1 + 1 + 1, 0, none⟩) 1 1] 27)).alloc (.cells #[.slice (some ⟨w.heap.size + 1 + 1 + 1 + 1, 0, none⟩) 3 3, .slice (some ⟨w.heap.size + 1 + 1 + 1 + 1 + 1 + 1 + 1 + 1, 0, none⟩) 3 3] 30)).heap[w.heap.size + 1 + 1 + 1 + 1 + 1 + 1 + 1 + 1 + 1]? = some (.cells #[.slice (some ⟨w.heap.size + 1 + 1 + 1 + 1, 0, none⟩) 3 3, .slice (some ⟨w.heap.size + 1 + 1 + 1 + 1 + 1 + 1 + 1 + 1, 0, none⟩) 3 3] 30 (0, 0)) := by simpa using blk_new (((((((((w.alloc (.cells #[.int .i64 2, .int .i64 0, .int .i64 6, .int .i64 1, .int .i64 4, .int .i64 2] 65)).alloc (.cells #[.int .i64 0, .int .i64 4, .int .i64 6] 3)).alloc (.cells #[.int .i64 3] 3)).alloc (.cells #[.int .i64 1, .slice (some ⟨w.heap.size, 0, none⟩) 3 3, .slice none 0 0, .slice (some ⟨w.heap.size + 1, 0, none⟩) 3 3, .slice (some ⟨w.heap.size + 1 + 1, 0, none⟩) 1 1] 26)).alloc (.cells #[.bool false, .bool true, .bool true] 4)).alloc (.cells #[.bool false] 4)).alloc (.cells #[.bool false] 4)).alloc (.cells #[.bool true] 4)).alloc (.cells #[.slice (some ⟨w.heap.size + 1 + 1 + 1 + 1 + 1, 0, none⟩) 1 1, .slice (some ⟨w.heap.size + 1 + 1 + 1 + 1 + 1 + 1, 0, none⟩) 1 1, .slice (some ⟨w.heap.size + 1 + 1 + 1 + 1 + 1 + 1 + 1, 0, none⟩) 1 1] 27)) (.cells #[.slice (some ⟨w.heap.size + 1 + 1 + 1 + 1, 0, none⟩) 3 3, .slice (some ⟨w.heap.size + 1 + 1 + 1 + 1 + 1 + 1 + 1 + 1, 0, none⟩) 3 3] 30)
  refine ⟨below_alloc (below_alloc (below_alloc (below_alloc (below_alloc (below_alloc (below_alloc (below_alloc (below_alloc (below_alloc (Below.refl _ _ ) _ ) _ ) _ ) _ ) _ ) _ ) _ ) _ ) _ ) _, (blk_alloc (blk_alloc (blk_alloc (blk_alloc (blk_alloc (blk_alloc b3 _) _) _) _) _) _), b9, ⟨RS.na_latches (blk_alloc (blk_alloc (blk_alloc (blk_alloc (blk_alloc (blk_alloc (blk_alloc (blk_alloc (blk_alloc b0 _) _) _) _) _) _) _) _) _), RS.nil _ _ _, RS.lit_ints [0, 4, 6] (by decide) (blk_alloc (blk_alloc (blk_alloc (blk_alloc (blk_alloc (blk_alloc (blk_alloc (blk_alloc b1 _) _) _) _) _) _) _) _), RS.lit_ints [3] (by decide) (blk_alloc (blk_alloc (blk_alloc (blk_alloc (blk_alloc (blk_alloc (blk_alloc b2 _) _) _) _) _) _) _)⟩, ⟨RS.lit_bools [false, true, true] (by decide) (blk_alloc (blk_alloc (blk_alloc (blk_alloc (blk_alloc b4 _) _) _) _) _), ?_⟩⟩
  refine RS.lit_grid [(some ⟨w.heap.size + 1 + 1 + 1 + 1 + 1, 0, none⟩, 1, [false]), (some ⟨w.heap.size + 1 + 1 + 1 + 1 + 1 + 1, 0, none⟩, 1, [false]), (some ⟨w.heap.size + 1 + 1 + 1 + 1 + 1 + 1 + 1, 0, none⟩, 1, [true])] (by simp) (blk_alloc b8 _) (fun x hx => ?_)
  simp only [List.mem_cons, List.not_mem_nil, or_false] at hx
  rcases hx with rfl | rfl | rfl
  · exact RS.lit_bools [false] (by decide) (blk_alloc (blk_alloc (blk_alloc (blk_alloc b5 _) _) _) _)
  · exact RS.lit_bools [false] (by decide) (blk_alloc (blk_alloc (blk_alloc b6 _) _) _)
  · exact RS.lit_bools [true] (by decide) (blk_alloc (blk_alloc b7 _) _)
set_option maxHeartbeats 16000000 in
set_option maxRecDepth 100000 in
theorem law_TracesNames (w : World) : Calls Try.prog 9 #[] w fun e w' => e = .returned (.bool true) ∧ Below w.heap.size w w' := by
  have hu26 := Try.underlying26
  have hu30 := Try.underlying30
  have hu65 := Try.underlying65
  have I := Aside0.mk (na_start w)
  obtain ⟨g0, g1, g2, g3, g4⟩ := (blk5w I.out.BC).1
  obtain ⟨u0, u1⟩ := (blk2t I.out.BT).1
  go_enter Try.func9, Try.ntmps9
  go_wp2_with fail
  refine (show Calls _ _ #[cv ⟨some ⟨w.heap.size, 0, none⟩, 3, none, 0, some ⟨w.heap.size + 1, 0, none⟩, 3, some ⟨w.heap.size + 1 + 1, 0, none⟩, 1⟩ naC, tv ⟨some ⟨w.heap.size + 1 + 1 + 1 + 1, 0, none⟩, 3, some ⟨w.heap.size + 1 + 1 + 1 + 1 + 1 + 1 + 1 + 1, 0, none⟩, 3⟩ naT] _ _ from traces_States ⟨some ⟨w.heap.size, 0, none⟩, 3, none, 0, some ⟨w.heap.size + 1, 0, none⟩, 3, some ⟨w.heap.size + 1 + 1, 0, none⟩, 1⟩ naC ⟨some ⟨w.heap.size + 1 + 1 + 1 + 1, 0, none⟩, 3, some ⟨w.heap.size + 1 + 1 + 1 + 1 + 1 + 1 + 1 + 1, 0, none⟩, 3⟩ naT _ I.out.RC na_fits I.out.RT).mono ?_
  rintro e w1 ⟨SA, sc, rfl, hr, hb⟩
  rw [na1] at hr ⊢
  have I := Aside0.mk (I.out.below hb)
  have S := Aside0.mk hr
  clear hr
  clear hb g0 g1 g2 g3 g4 u0 u1
  obtain ⟨g0, g1, g2, g3, g4⟩ := (blk5w I.out.BC).1
  obtain ⟨u0, u1⟩ := (blk2t I.out.BT).1
  go_wp2_with fail
  refine (show Calls _ _ #[cv ⟨some ⟨w.heap.size, 0, none⟩, 3, none, 0, some ⟨w.heap.size + 1, 0, none⟩, 3, some ⟨w.heap.size + 1 + 1, 0, none⟩, 1⟩ naC, tv ⟨some ⟨w.heap.size + 1 + 1 + 1 + 1, 0, none⟩, 3, some ⟨w.heap.size + 1 + 1 + 1 + 1 + 1 + 1 + 1 + 1, 0, none⟩, 3⟩ naT] _ _ from traces_Right ⟨some ⟨w.heap.size, 0, none⟩, 3, none, 0, some ⟨w.heap.size + 1, 0, none⟩, 3, some ⟨w.heap.size + 1 + 1, 0, none⟩, 1⟩ naC ⟨some ⟨w.heap.size + 1 + 1 + 1 + 1, 0, none⟩, 3, some ⟨w.heap.size + 1 + 1 + 1 + 1 + 1 + 1 + 1 + 1, 0, none⟩, 3⟩ naT _ I.out.RC na_fits I.out.RT).mono ?_
  rintro e w2 ⟨rfl, hb⟩
  rw [na2]
  have S := Aside0.mk (S.out.below hb)
  have I := Aside0.mk (I.out.below hb)
  clear hb g0 g1 g2 g3 g4 u0 u1
  obtain ⟨g0, g1, g2, g3, g4⟩ := (blk5w I.out.BC).1
  obtain ⟨u0, u1⟩ := (blk2t I.out.BT).1
  go_wp2_with fail
  refine (show Calls _ _ #[cv ⟨some ⟨w.heap.size, 0, none⟩, 3, none, 0, some ⟨w.heap.size + 1, 0, none⟩, 3, some ⟨w.heap.size + 1 + 1, 0, none⟩, 1⟩ naC, tv ⟨some ⟨w.heap.size + 1 + 1 + 1 + 1, 0, none⟩, 3, some ⟨w.heap.size + 1 + 1 + 1 + 1 + 1 + 1 + 1 + 1, 0, none⟩, 3⟩ naT] _ _ from traces_Witness ⟨some ⟨w.heap.size, 0, none⟩, 3, none, 0, some ⟨w.heap.size + 1, 0, none⟩, 3, some ⟨w.heap.size + 1 + 1, 0, none⟩, 1⟩ naC ⟨some ⟨w.heap.size + 1 + 1 + 1 + 1, 0, none⟩, 3, some ⟨w.heap.size + 1 + 1 + 1 + 1 + 1 + 1 + 1 + 1, 0, none⟩, 3⟩ naT _ I.out.RC na_fits I.out.RT).mono ?_
  rintro e w3 ⟨rfl, hb⟩
  rw [na3]
  have S := Aside0.mk (S.out.below hb)
  have I := Aside0.mk (I.out.below hb)
  clear hb g0 g1 g2 g3 g4 u0 u1
  obtain ⟨g0, g1, g2, g3, g4⟩ := (blk5w I.out.BC).1
  obtain ⟨u0, u1⟩ := (blk2t I.out.BT).1
  have I4 := Aside0.mk (I.out.below (below_drew (Below.refl _ _)))
  go_wp2_with fail
  refine start_ (n := 8) (S := (fun w' => w'.cell? ⟨w.heap.size + 1 + 1 + 1 + 1 + 1 + 1 + 1 + 1 + 1, 0, none⟩ = some (.slice (some ⟨w.heap.size + 1 + 1 + 1 + 1, 0, none⟩) 3 3) ∧ w'.cell? ⟨w.heap.size + 1 + 1 + 1 + 1 + 1 + 1 + 1 + 1 + 1, 1, none⟩ = some (.slice (some ⟨w.heap.size + 1 + 1 + 1 + 1 + 1 + 1 + 1 + 1, 0, none⟩) 3 3))) (ds := []) #[false, false, false, false, false, false, false, false] (by kernel_rfl) rfl rfl ⟨u0, u1⟩ (fun hHeld => ?_)
  clear g0 g1 g2 g3 g4 u0 u1
  refine pure_ (i := 0) (N := some 68) (v := ?_) (a' := ?_) #[true, false, false, false, false, false, false, false] rfl rfl (by kernel_rfl) (fun _ _ _ h => h) (Or.inl ⟨by rfl, ?_⟩) ?_ ?_
  rotate_left
  · intro w'
    go_simp
    with_reducible rfl
  rotate_left
  · simp only [Act.put, List.setIfInBounds_toArray, List.set_cons_zero, List.set_cons_succ]
    rfl
  refine take_ (i := 1) (N := some 69) (v := ?_) (a' := ?_) #[true, true, false, false, false, false, false, false] rfl rfl (by kernel_rfl) (fun _ _ _ h => h) (Or.inl ⟨by rfl, ?_⟩) hHeld ?_ ?_
  rotate_left
  · rintro w' ⟨s0, s1⟩
    go_simp
    with_reducible rfl
  rotate_left
  · simp only [Act.put, List.setIfInBounds_toArray, List.set_cons_zero, List.set_cons_succ]
    rfl
  refine pure_ (i := 2) (N := some 70) (v := ?_) (a' := ?_) #[true, true, true, false, false, false, false, false] rfl rfl (by kernel_rfl) (fun _ _ _ h => h) (Or.inl ⟨by rfl, ?_⟩) ?_ ?_
  rotate_left
  · intro w'
    go_simp
    with_reducible rfl
  rotate_left
  · simp only [Act.put, List.setIfInBounds_toArray, List.set_cons_zero, List.set_cons_succ]
    rfl
  refine take_ (i := 3) (N := some 71) (v := ?_) (a' := ?_) #[true, true, true, true, false, false, false, false] rfl rfl (by kernel_rfl) (fun _ _ _ h => h) (Or.inl ⟨by rfl, ?_⟩) hHeld ?_ ?_
  rotate_left
  · rintro w' ⟨s0, s1⟩
    go_simp
    with_reducible rfl
  rotate_left
  · simp only [Act.put, List.setIfInBounds_toArray, List.set_cons_zero, List.set_cons_succ]
    rfl
  refine pure_ (i := 4) (N := some 72) (v := ?_) (a' := ?_) #[true, true, true, true, true, false, false, false] rfl rfl (by kernel_rfl) (fun _ _ _ h => h) (Or.inl ⟨by rfl, ?_⟩) ?_ ?_
  rotate_left
  · intro w'
    go_simp
    with_reducible rfl
  rotate_left
  · simp only [Act.put, List.setIfInBounds_toArray, List.set_cons_zero, List.set_cons_succ]
    rfl
  refine pure_ (i := 5) (N := some 73) (v := ?_) (a' := ?_) #[true, true, true, true, true, true, false, false] rfl rfl (by kernel_rfl) (fun _ _ _ h => h) (Or.inl ⟨by rfl, ?_⟩) ?_ ?_
  rotate_left
  · intro w'
    go_simp
    with_reducible rfl
  rotate_left
  · simp only [Act.put, List.setIfInBounds_toArray, List.set_cons_zero, List.set_cons_succ]
    rfl
  refine one_ (i := 6) (N := some 9) #[true, true, true, true, true, true, true, false] rfl rfl (by kernel_rfl) (by decide) (fun K hK => ?_)
  refine value_ (w1 := ?_) (v := ?_) (by rfl) rfl ?_ ?_
  rotate_left 2
  · go_simp
    constructor
    · rfl
    · rfl
  have I5 := Aside0.mk (I4.out.below (below_alloc (Below.refl _ _) (.cells #[.slice none 0 0, .slice none 0 0] 30)))
  have N5 := Aside0.mk (blk_new w3.drew (.cells #[.slice none 0 0, .slice none 0 0] 30))
  have HSZ := Aside0.mk (show w.heap.size + 10 ≤ w3.heap.size by have := blk_lt I.out.BT; omega)
  refine hK.out _ _ (blk2t I5.out.BT).1 (fun hHeld => ?_)
  clear hK K
  refine norm_ (a' := ?_) ?_ ?_
  rotate_left
  · show Act.put _ (some 9) _ = _
    simp only [Act.put, List.setIfInBounds_toArray, List.set_cons_zero, List.set_cons_succ]
    rfl
  obtain ⟨⟨v0, v1⟩, z0, z1⟩ := blk2t N5.out
  refine one_ (i := 7) (N := none) #[true, true, true, true, true, true, true, true] rfl rfl (by kernel_rfl) (by decide) (fun K hK => ?_)
  refine skip_ (w1 := ?_) (by rfl) rfl ?_ ?_
  rotate_left
  · go_simp
    rfl
  clear I4 I5 N5 v0 v1 z0 z1
  have hb := below_drew (below_alloc (Below.refl w3.heap.size w3) (.cells #[.slice (some ⟨w.heap.size + 1 + 1 + 1 + 1, 0, none⟩) 3 3, .slice (some ⟨w.heap.size + 1 + 1 + 1 + 1 + 1 + 1 + 1 + 1, 0, none⟩) 2 3] 30))
  have I := Aside0.mk (I.out.below hb)
  have S := Aside0.mk (S.out.below hb)
  have N := Aside0.mk (show (w3.alloc (.cells #[.slice (some ⟨w.heap.size + 1 + 1 + 1 + 1, 0, none⟩) 3 3, .slice (some ⟨w.heap.size + 1 + 1 + 1 + 1 + 1 + 1 + 1 + 1, 0, none⟩) 2 3] 30)).drew.heap[w3.heap.size]? = some (.cells #[.slice (some ⟨w.heap.size + 1 + 1 + 1 + 1, 0, none⟩) 3 3, .slice (some ⟨w.heap.size + 1 + 1 + 1 + 1 + 1 + 1 + 1 + 1, 0, none⟩) 2 3] 30 (0, 0)) from blk_new w3 (.cells #[.slice (some ⟨w.heap.size + 1 + 1 + 1 + 1, 0, none⟩) 3 3, .slice (some ⟨w.heap.size + 1 + 1 + 1 + 1 + 1 + 1 + 1 + 1, 0, none⟩) 2 3] 30))
  refine hK.out _ _ (blk2t I.out.BT).1 (fun hHeld => ?_)
  clear hK K
  refine done_ (by kernel_rfl) ?_
  clear hb hHeld
  obtain ⟨w4, hw4⟩ : ∃ W, (w3.alloc (.cells #[.slice (some ⟨w.heap.size + 1 + 1 + 1 + 1, 0, none⟩) 3 3, .slice (some ⟨w.heap.size + 1 + 1 + 1 + 1 + 1 + 1 + 1 + 1, 0, none⟩) 2 3] 30)).drew = W := ⟨_, rfl⟩
  rw [hw4] at I S N ⊢
  clear hw4
  obtain ⟨g0, g1, g2, g3, g4⟩ := (blk5w I.out.BC).1
  obtain ⟨u0, u1⟩ := (blk2t N.out).1
  have R2 := Aside0.mk (show RT w4 ⟨some ⟨w.heap.size + 1 + 1 + 1 + 1, 0, none⟩, 3, some ⟨w.heap.size + 1 + 1 + 1 + 1 + 1 + 1 + 1 + 1, 0, none⟩, 3⟩ naT2 from ⟨I.out.RT.s0, ⟨Kd.C_take (m := 2) I.out.RT.s1.r (show 2 ≤ naI.length by decide), show 2 ≤ 3 by decide⟩⟩)
  go_wp2_with fail
  go_wp2_with fail
  refine (show Calls _ _ #[cv ⟨some ⟨w.heap.size, 0, none⟩, 3, none, 0, some ⟨w.heap.size + 1, 0, none⟩, 3, some ⟨w.heap.size + 1 + 1, 0, none⟩, 1⟩ naC, .agg #[.slice (some ⟨w.heap.size + 1 + 1 + 1 + 1, 0, none⟩) 3 3, .slice (some ⟨w.heap.size + 1 + 1 + 1 + 1 + 1 + 1 + 1 + 1, 0, none⟩) 2 3]] _ _ from traces_Witness ⟨some ⟨w.heap.size, 0, none⟩, 3, none, 0, some ⟨w.heap.size + 1, 0, none⟩, 3, some ⟨w.heap.size + 1 + 1, 0, none⟩, 1⟩ naC ⟨some ⟨w.heap.size + 1 + 1 + 1 + 1, 0, none⟩, 3, some ⟨w.heap.size + 1 + 1 + 1 + 1 + 1 + 1 + 1 + 1, 0, none⟩, 3⟩ naT2 _ I.out.RC na_fits R2.out).mono ?_
  rintro e w5 ⟨rfl, hb⟩
  rw [na4]
  have S := Aside0.mk (S.out.below hb)
  have I := Aside0.mk (I.out.below hb)
  clear hb g0 g1 g2 g3 g4 u0 u1
  clear R2 N
  obtain ⟨g0, g1, g2, g3, g4⟩ := (blk5w I.out.BC).1
  obtain ⟨u0, u1⟩ := (blk2t I.out.BT).1
  go_wp2_with fail
  refine (show Calls _ _ #[cv ⟨some ⟨w.heap.size, 0, none⟩, 3, none, 0, some ⟨w.heap.size + 1, 0, none⟩, 3, some ⟨w.heap.size + 1 + 1, 0, none⟩, 1⟩ naC, tv ⟨some ⟨w.heap.size + 1 + 1 + 1 + 1, 0, none⟩, 3, some ⟨w.heap.size + 1 + 1 + 1 + 1 + 1 + 1 + 1 + 1, 0, none⟩, 3⟩ naT] _ _ from traces_Cut ⟨some ⟨w.heap.size, 0, none⟩, 3, none, 0, some ⟨w.heap.size + 1, 0, none⟩, 3, some ⟨w.heap.size + 1 + 1, 0, none⟩, 1⟩ naC ⟨some ⟨w.heap.size + 1 + 1 + 1 + 1, 0, none⟩, 3, some ⟨w.heap.size + 1 + 1 + 1 + 1 + 1 + 1 + 1 + 1, 0, none⟩, 3⟩ naT _ I.out.RC na_fits I.out.RT).mono ?_
  rintro e w6 ⟨qc, rfl, hr, hb⟩
  rw [na5] at hr ⊢
  have S := Aside0.mk (S.out.below hb)
  have I := Aside0.mk (I.out.below hb)
  clear hr
  clear hb g0 g1 g2 g3 g4 u0 u1
  have L : Aside0 (NaL w (w.heap.size + 1 + 1 + 1) (w.heap.size + 1 + 1 + 1 + 1 + 1 + 1 + 1 + 1 + 1) ⟨some ⟨w.heap.size, 0, none⟩, 3, none, 0, some ⟨w.heap.size + 1, 0, none⟩, 3, some ⟨w.heap.size + 1 + 1, 0, none⟩, 1⟩ ⟨some ⟨w.heap.size + 1 + 1 + 1 + 1, 0, none⟩, 3, some ⟨w.heap.size + 1 + 1 + 1 + 1 + 1 + 1 + 1 + 1, 0, none⟩, 3⟩ SA sc w6.heap.size qc (w6.heap.size + 1 + 1 + 1 + 1) (w6.heap.size + 1 + 1 + 1 + 1 + 1) ((((((w6.alloc (.cells #[.slice qc.A0 naF.length qc.c0, .slice qc.A1 1 qc.c1] 30)).alloc (.cells #[.bool false, .bool true, .bool false] 4)).alloc (.cells #[.bool true, .bool true, .bool true] 4)).alloc (.cells #[.bool false, .bool false, .bool true] 4)).alloc (.cells #[.slice (some ⟨w6.heap.size + 1, 0, none⟩) 3 3, .slice (some ⟨w6.heap.size + 1 + 1, 0, none⟩) 3 3, .slice (some ⟨w6.heap.size + 1 + 1 + 1, 0, none⟩) 3 3] 27)).alloc (.cells #[.bool true, .bool false, .bool false] 4))) := by
    have b0 : (w6.alloc (.cells #[.slice qc.A0 naF.length qc.c0, .slice qc.A1 1 qc.c1] 30)).heap[w6.heap.size]? = some (.cells #[.slice qc.A0 naF.length qc.c0, .slice qc.A1 1 qc.c1] 30 (0, 0)) := by simpa using blk_new w6 (.cells #[.slice qc.A0 naF.length qc.c0, .slice qc.A1 1 qc.c1] 30)
    have b1 : ((w6.alloc (.cells #[.slice qc.A0 naF.length qc.c0, .slice qc.A1 1 qc.c1] 30)).alloc (.cells #[.bool false, .bool true, .bool false] 4)).heap[w6.heap.size + 1]? = some (.cells #[.bool false, .bool true, .bool false] 4 (0, 0)) := by simpa using blk_new (w6.alloc (.cells #[.slice qc.A0 naF.length qc.c0, .slice qc.A1 1 qc.c1] 30)) (.cells #[.bool false, .bool true, .bool false] 4)
    have b2 : (((w6.alloc (.cells #[.slice qc.A0 naF.length qc.c0, .slice qc.A1 1 qc.c1] 30)).alloc (.cells #[.bool false, .bool true, .bool false] 4)).alloc (.cells #[.bool true, .bool true, .bool true] 4)).heap[w6.heap.size + 1 + 1]? = some (.cells #[.bool true, .bool true, .bool true] 4 (0, 0)) := by simpa using blk_new ((w6.alloc (.cells #[.slice qc.A0 naF.length qc.c0, .slice qc.A1 1 qc.c1] 30)).alloc (.cells #[.bool false, .bool true, .bool false] 4)) (.cells #[.bool true, .bool true, .bool true] 4)
    have b3 : ((((w6.alloc (.cells #[.slice qc.A0 naF.length qc.c0, .slice qc.A1 1 qc.c1] 30)).alloc (.cells #[.bool false, .bool true, .bool false] 4)).alloc (.cells #[.bool true, .bool true, .bool true] 4)).alloc (.cells #[.bool false, .bool false, .bool true] 4)).heap[w6.heap.size + 1 + 1 + 1]? = some (.cells #[.bool false, .bool false, .bool true] 4 (0, 0)) := by simpa using blk_new (((w6.alloc (.cells #[.slice qc.A0 naF.length qc.c0, .slice qc.A1 1 qc.c1] 30)).alloc (.cells #[.bool false, .bool true, .bool false] 4)).alloc (.cells #[.bool true, .bool true, .bool true] 4)) (.cells #[.bool false, .bool false, .bool true] 4)
    have b4 : (((((w6.alloc (.cells #[.slice qc.A0 naF.length qc.c0, .slice qc.A1 1 qc.c1] 30)).alloc (.cells #[.bool false, .bool true, .bool false] 4)).alloc (.cells #[.bool true, .bool true, .bool true] 4)).alloc (.cells #[.bool false, .bool false, .bool true] 4)).alloc (.cells #[.slice (some ⟨w6.heap.size + 1, 0, none⟩) 3 3, .slice (some ⟨w6.heap.size + 1 + 1, 0, none⟩) 3 3, .slice (some ⟨w6.heap.size + 1 + 1 + 1, 0, none⟩) 3 3] 27)).heap[w6.heap.size + 1 + 1 + 1 + 1]? = some (.cells #[.slice (some ⟨w6.heap.size + 1, 0, none⟩) 3 3, .slice (some ⟨w6.heap.size + 1 + 1, 0, none⟩) 3 3, .slice (some ⟨w6.heap.size + 1 + 1 + 1, 0, none⟩) 3 3] 27 (0, 0)) := by simpa using blk_new ((((w6.alloc (.cells #[.slice qc.A0 naF.length qc.c0, .slice qc.A1 1 qc.c1] 30)).alloc (.cells #[.bool false, .bool true, .bool false] 4)).alloc (.cells #[.bool true, .bool true, .bool true] 4)).alloc (.cells #[.bool false, .bool false, .bool true] 4)) (.cells #[.slice (some ⟨w6.heap.size + 1, 0, none⟩) 3 3, .slice (some ⟨w6.heap.size + 1 + 1, 0, none⟩) 3 3, .slice (some ⟨w6.heap.size + 1 + 1 + 1, 0, none⟩) 3 3] 27)
    have b5 : ((((((w6.alloc (.cells #[.slice qc.A0 naF.length qc.c0, .slice qc.A1 1 qc.c1] 30)).alloc (.cells #[.bool false, .bool true, .bool false] 4)).alloc (.cells #[.bool true, .bool true, .bool true] 4)).alloc (.cells #[.bool false, .bool false, .bool true] 4)).alloc (.cells #[.slice (some ⟨w6.heap.size + 1, 0, none⟩) 3 3, .slice (some ⟨w6.heap.size + 1 + 1, 0, none⟩) 3 3, .slice (some ⟨w6.heap.size + 1 + 1 + 1, 0, none⟩) 3 3] 27)).alloc (.cells #[.bool true, .bool false, .bool false] 4)).heap[w6.heap.size + 1 + 1 + 1 + 1 + 1]? = some (.cells #[.bool true, .bool false, .bool false] 4 (0, 0)) := by simpa using blk_new (((((w6.alloc (.cells #[.slice qc.A0 naF.length qc.c0, .slice qc.A1 1 qc.c1] 30)).alloc (.cells #[.bool false, .bool true, .bool false] 4)).alloc (.cells #[.bool true, .bool true, .bool true] 4)).alloc (.cells #[.bool false, .bool false, .bool true] 4)).alloc (.cells #[.slice (some ⟨w6.heap.size + 1, 0, none⟩) 3 3, .slice (some ⟨w6.heap.size + 1 + 1, 0, none⟩) 3 3, .slice (some ⟨w6.heap.size + 1 + 1 + 1, 0, none⟩) 3 3] 27)) (.cells #[.bool true, .bool false, .bool false] 4)
    have hb : Below w6.heap.size w6 ((((((w6.alloc (.cells #[.slice qc.A0 naF.length qc.c0, .slice qc.A1 1 qc.c1] 30)).alloc (.cells #[.bool false, .bool true, .bool false] 4)).alloc (.cells #[.bool true, .bool true, .bool true] 4)).alloc (.cells #[.bool false, .bool false, .bool true] 4)).alloc (.cells #[.slice (some ⟨w6.heap.size + 1, 0, none⟩) 3 3, .slice (some ⟨w6.heap.size + 1 + 1, 0, none⟩) 3 3, .slice (some ⟨w6.heap.size + 1 + 1 + 1, 0, none⟩) 3 3] 27)).alloc (.cells #[.bool true, .bool false, .bool false] 4)) := below_alloc (below_alloc (below_alloc (below_alloc (below_alloc (below_alloc (Below.refl _ _) _) _) _) _) _) _
    refine ⟨⟨I.out.below hb, S.out.below hb, (blk_alloc (blk_alloc (blk_alloc (blk_alloc (blk_alloc b0 _) _) _) _) _), ?_, RS.lit_bools [true, false, false] (by decide) b5⟩⟩
    refine RS.lit_grid [(some ⟨w6.heap.size + 1, 0, none⟩, 3, naB 0), (some ⟨w6.heap.size + 1 + 1, 0, none⟩, 3, naB 1), (some ⟨w6.heap.size + 1 + 1 + 1, 0, none⟩, 3, naB 2)] (by simp) (blk_alloc b4 _) (fun x hx => ?_)
    simp only [List.mem_cons, List.not_mem_nil, or_false] at hx
    rcases hx with rfl | rfl | rfl
    · exact RS.lit_bools (naB 0) (by decide) (blk_alloc (blk_alloc (blk_alloc (blk_alloc b1 _) _) _) _)
    · exact RS.lit_bools (naB 1) (by decide) (blk_alloc (blk_alloc (blk_alloc b2 _) _) _)
    · exact RS.lit_bools (naB 2) (by decide) (blk_alloc (blk_alloc b3 _) _)
  clear I S
  go_wp2_with fail
  generalize w6.heap.size = gK at *
  go_loopg [16] 3 (fun gg s16 wr => ∃ i : Nat, s16 = .int .i64 i ∧ Aside0 (i ≤ 3 ∧ 3 - i ≤ gg) ∧ Aside0 (NaL w (w.heap.size + 1 + 1 + 1) (w.heap.size + 1 + 1 + 1 + 1 + 1 + 1 + 1 + 1 + 1) ⟨some ⟨w.heap.size, 0, none⟩, 3, none, 0, some ⟨w.heap.size + 1, 0, none⟩, 3, some ⟨w.heap.size + 1 + 1, 0, none⟩, 1⟩ ⟨some ⟨w.heap.size + 1 + 1 + 1 + 1, 0, none⟩, 3, some ⟨w.heap.size + 1 + 1 + 1 + 1 + 1 + 1 + 1 + 1, 0, none⟩, 3⟩ SA sc gK qc (gK + 1 + 1 + 1 + 1) (gK + 1 + 1 + 1 + 1 + 1) wr))
  case atStart => exact ⟨0, rfl, ⟨by omega, by omega⟩, L⟩
  case round =>
    clear L
    obtain ⟨i, rfl, HK, L⟩ := hrel
    obtain ⟨g0, g1, g2, g3, g4⟩ := (blk5w L.out.I.BC).1
    by_cases hlt : i < 3
    · have hltI : (i : Int) < 3 := by omega
      have HLT := Aside0.mk hlt
      have HF := Aside0.mk (L.out.first i hlt)
      have HN := Aside0.mk (na6 i hlt)
      obtain ⟨FB, fc, hx, hr, hy⟩ := HF.out
      have HR := Aside0.mk (hr.below (below_drew (Below.refl _ _)))
      have HFW := Aside0.mk (fun W (hb : Below wr.heap.size wr W) => pw_cell_below hb hy)
      have LD := Aside0.mk (L.out.below (below_drew (Below.refl _ _)))
      clear HF hr hy
      generalize naW i = wi at *
      generalize naB i = st at *
      go_wp2_with fail
      refine start_ (n := 11) (S := (fun w' => w'.cell? ⟨w.heap.size + 1 + 1 + 1, 0, none⟩ = some (.int .i64 1) ∧ w'.cell? ⟨w.heap.size + 1 + 1 + 1, 1, none⟩ = some (.slice (some ⟨w.heap.size, 0, none⟩) 3 3) ∧ w'.cell? ⟨w.heap.size + 1 + 1 + 1, 2, none⟩ = some (.slice none 0 0) ∧ w'.cell? ⟨w.heap.size + 1 + 1 + 1, 3, none⟩ = some (.slice (some ⟨w.heap.size + 1, 0, none⟩) 3 3) ∧ w'.cell? ⟨w.heap.size + 1 + 1 + 1, 4, none⟩ = some (.slice (some ⟨w.heap.size + 1 + 1, 0, none⟩) 1 1) ∧ w'.cell? ⟨gK + 1 + 1 + 1 + 1, i, none⟩ = some (.slice FB st.length fc))) (ds := []) #[false, false, false, false, false, false, false, false, false, false, false] (by kernel_rfl) rfl rfl ⟨g0, g1, g2, g3, g4, hx⟩ (fun hHeld => ?_)
      clear g0 g1 g2 g3 g4
      refine take_ (i := 0) (N := some 96) (v := ?_) (a' := ?_) #[true, false, false, false, false, false, false, false, false, false, false] rfl rfl (by kernel_rfl) (fun _ _ _ h => h) (Or.inl ⟨by rfl, ?_⟩) hHeld ?_ ?_
      rotate_left
      · rintro w' ⟨s0, s1, s2, s3, s4, s5⟩
        go_simp
        with_reducible rfl
      rotate_left
      · simp only [Act.put, List.setIfInBounds_toArray, List.set_cons_zero, List.set_cons_succ]
        rfl
      refine pure_ (i := 1) (N := some 97) (v := ?_) (a' := ?_) #[true, true, false, false, false, false, false, false, false, false, false] rfl rfl (by kernel_rfl) (fun _ _ _ h => h) (Or.inl ⟨by rfl, ?_⟩) ?_ ?_
      rotate_left
      · intro w'
        go_simp
        with_reducible rfl
      rotate_left
      · simp only [Act.put, List.setIfInBounds_toArray, List.set_cons_zero, List.set_cons_succ]
        rfl
      refine pure_ (i := 2) (N := some 98) (v := ?_) (a' := ?_) #[true, true, true, false, false, false, false, false, false, false, false] rfl rfl (by kernel_rfl) (fun _ _ _ h => h) (Or.inl ⟨by rfl, ?_⟩) ?_ ?_
      rotate_left
      · intro w'
        go_simp
        with_reducible rfl
      rotate_left
      · simp only [Act.put, List.setIfInBounds_toArray, List.set_cons_zero, List.set_cons_succ]
        rfl
      refine pure_ (i := 3) (N := some 99) (v := ?_) (a' := ?_) #[true, true, true, true, false, false, false, false, false, false, false] rfl rfl (by kernel_rfl) (fun _ _ _ h => h) (Or.inl ⟨by rfl, ?_⟩) ?_ ?_
      rotate_left
      · intro w'
        go_simp
        with_reducible rfl
      rotate_left
      · simp only [Act.put, List.setIfInBounds_toArray, List.set_cons_zero, List.set_cons_succ]
        rfl
      refine take_ (i := 4) (N := some 100) (v := ?_) (a' := ?_) #[true, true, true, true, true, false, false, false, false, false, false] rfl rfl (by kernel_rfl) (fun _ _ _ h => h) (Or.inl ⟨by rfl, ?_⟩) hHeld ?_ ?_
      rotate_left
      · rintro w' ⟨s0, s1, s2, s3, s4, s5⟩
        go_simp
        with_reducible rfl
      rotate_left
      · simp only [Act.put, List.setIfInBounds_toArray, List.set_cons_zero, List.set_cons_succ]
        rfl
      refine one_ (i := 5) (N := some 101) #[true, true, true, true, true, true, false, false, false, false, false] rfl rfl (by kernel_rfl) (by decide) (fun K hK => ?_)
      refine goes_ Try.func13 (by kernel_rfl) rfl #[cv ⟨some ⟨w.heap.size, 0, none⟩, 3, none, 0, some ⟨w.heap.size + 1, 0, none⟩, 3, some ⟨w.heap.size + 1 + 1, 0, none⟩, 1⟩ naC, .slice FB st.length fc] (by rfl) rfl rfl (by simp only [List.map_toArray, List.map_cons, List.map_nil] <;> rfl) ?_
      refine (traces_First ⟨some ⟨w.heap.size, 0, none⟩, 3, none, 0, some ⟨w.heap.size + 1, 0, none⟩, 3, some ⟨w.heap.size + 1 + 1, 0, none⟩, 1⟩ naC FB fc st _ LD.out.I.RC na_fits HR.out).mono ?_
      rintro e w7 ⟨rfl, hb⟩
      rw [HN.out]
      refine ⟨_, rfl, ?_⟩
      have L7 := Aside0.mk (LD.out.below hb)
      have HX := Aside0.mk (pw_cell_below hb hx)
      have hy := HFW.out w7 (Below.trans (below_drew (Below.refl _ _)) hb)
      clear hb hx HFW
      refine hK.out _ _ (by obtain ⟨g0, g1, g2, g3, g4⟩ := (blk5w L7.out.I.BC).1; exact ⟨g0, g1, g2, g3, g4, HX.out⟩) (fun hHeld => ?_)
      clear hK K
      refine norm_ (a' := ?_) ?_ ?_
      rotate_left
      · show Act.put _ (some 101) _ = _
        simp only [Act.put, List.setIfInBounds_toArray, List.set_cons_zero, List.set_cons_succ]
        rfl
      refine pure_ (i := 6) (N := some 95) (v := ?_) (a' := ?_) #[true, true, true, true, true, true, true, false, false, false, false] rfl rfl (by kernel_rfl) (fun _ _ _ h => h) (Or.inl ⟨by rfl, ?_⟩) ?_ ?_
      rotate_left
      · intro w'
        go_simp
        with_reducible rfl
      rotate_left
      · simp only [Act.put, List.setIfInBounds_toArray, List.set_cons_zero, List.set_cons_succ]
        rfl
      refine pure_ (i := 7) (N := some 102) (v := ?_) (a' := ?_) #[true, true, true, true, true, true, true, true, false, false, false] rfl rfl (by kernel_rfl) (fun _ _ _ h => h) (Or.inl ⟨by rfl, ?_⟩) ?_ ?_
      rotate_left
      · intro w'
        go_simp
        with_reducible rfl
      rotate_left
      · simp only [Act.put, List.setIfInBounds_toArray, List.set_cons_zero, List.set_cons_succ]
        rfl
      refine pure_ (i := 8) (N := some 103) (v := ?_) (a' := ?_) #[true, true, true, true, true, true, true, true, true, false, false] rfl rfl (by kernel_rfl) (fun _ _ _ h => h) (Or.inl ⟨by rfl, ?_⟩) ?_ ?_
      rotate_left
      · intro w'
        go_simp
        with_reducible rfl
      rotate_left
      · simp only [Act.put, List.setIfInBounds_toArray, List.set_cons_zero, List.set_cons_succ]
        rfl
      refine pure_ (i := 9) (N := some 17) (v := ?_) (a' := ?_) #[true, true, true, true, true, true, true, true, true, true, false] rfl rfl (by kernel_rfl) (fun _ _ _ h => h) (Or.inl ⟨by rfl, ?_⟩) ?_ ?_
      rotate_left
      · intro w'
        go_simp
        with_reducible rfl
      rotate_left
      · simp only [Act.put, List.setIfInBounds_toArray, List.set_cons_zero, List.set_cons_succ]
        rfl
      refine pure_ (i := 10) (N := some 18) (v := ?_) (a' := ?_) #[true, true, true, true, true, true, true, true, true, true, true] rfl rfl (by kernel_rfl) (fun _ _ _ h => h) (Or.inl ⟨by rfl, ?_⟩) ?_ ?_
      rotate_left
      · intro w'
        go_simp
        with_reducible rfl
      rotate_left
      · simp only [Act.put, List.setIfInBounds_toArray, List.set_cons_zero, List.set_cons_succ]
        rfl
      refine done_ (by kernel_rfl) ?_
      clear HX hHeld
      go_wp2
      go_roundg (3 - (i + 1))
      case measure => have := HK.out; have := HLT.out; omega
      case rel => exact ⟨i + 1, rfl, ⟨HLT.out, by have := HK.out; omega⟩, L7⟩
    · have hltI : ¬ (i : Int) < 3 := by omega
      clear HK hlt g0 g1 g2 g3 g4
      go_wp2_with fail
      go_loopg [19] 6 (fun gg s19 wr => ∃ i : Nat, s19 = .int .i64 i ∧ Aside0 (i ≤ 6 ∧ 6 - i ≤ gg) ∧ Aside0 (NaL w (w.heap.size + 1 + 1 + 1) (w.heap.size + 1 + 1 + 1 + 1 + 1 + 1 + 1 + 1 + 1) ⟨some ⟨w.heap.size, 0, none⟩, 3, none, 0, some ⟨w.heap.size + 1, 0, none⟩, 3, some ⟨w.heap.size + 1 + 1, 0, none⟩, 1⟩ ⟨some ⟨w.heap.size + 1 + 1 + 1 + 1, 0, none⟩, 3, some ⟨w.heap.size + 1 + 1 + 1 + 1 + 1 + 1 + 1 + 1, 0, none⟩, 3⟩ SA sc gK qc (gK + 1 + 1 + 1 + 1) (gK + 1 + 1 + 1 + 1 + 1) wr))
      case atStart => exact ⟨0, rfl, ⟨by omega, by omega⟩, L⟩
      case round =>
        clear L hltI
        obtain ⟨i, rfl, HK, L⟩ := hrel
        obtain ⟨u0, u1⟩ := (blk2t L.out.I.BT).1
        by_cases hlt : i < 6
        · have hltI : (i : Int) < 6 := by omega
          have HLT := Aside0.mk hlt
          have HNX := Aside0.mk (na_x i hlt)
          go_wp2_with fail
          refine (na_Twin ⟨some ⟨w.heap.size + 1 + 1 + 1 + 1, 0, none⟩, 3, some ⟨w.heap.size + 1 + 1 + 1 + 1 + 1 + 1 + 1 + 1, 0, none⟩, 3⟩ _ L.out.I.RT).mono ?_
          rintro e w7 ⟨gF, cF, gI, cI, gO, rfl, hgo, hf, hi, hb⟩
          have L7 := Aside0.mk (L.out.below hb)
          have HB7 := Aside0.mk hb
          have HG := Aside0.mk hgo
          have RF := Aside0.mk hf
          have RI := Aside0.mk hi
          clear hgo hf hi hb u0 u1
          go_upto_region 21 with (fail)
          have N : Aside0 (NaW wr w7.heap.size gF cF gI cI gO (w7.alloc (.cells #[.slice (some ⟨gF, 0, none⟩) 3 cF, .slice (some ⟨gI, 0, none⟩) 3 cI] 30))) :=
            ⟨⟨below_alloc HB7.out _, blk_new _ _, HG.out, Kd.R_below RF.out (below_alloc (Below.refl _ _) _), Kd.R_below (Kd.R_mono (Kd.R_bound RI.out) (fun k hk => ⟨hk.1, hk.2.2.1⟩)) (below_alloc (Below.refl _ _) _)⟩⟩
          clear RF RI HG HB7 L7
          generalize w7.alloc (.cells #[.slice (some ⟨gF, 0, none⟩) 3 cF, .slice (some ⟨gI, 0, none⟩) 3 cI] 30) = w8 at *
          generalize w7.heap.size = gt at *
          obtain ⟨⟨t0, t1⟩, z0, z1⟩ := blk2t N.out.BT
          rcases (show i = 0 ∨ i = 1 ∨ i = 2 ∨ i = 3 ∨ i = 4 ∨ i = 5 by have := HLT.out; omega) with rfl | rfl | rfl | rfl | rfl | rfl
          · skip
            clear hltI hlt
            obtain ⟨g0, g1, g2, g3, g4⟩ := (blk5w (L.out.below N.out.BW).I.BC).1
            go_upto_region 34 with (fail)
            have C := Aside0.mk (N.out.x0)
            have Es := Aside0.mk (show statesC naC (naX 0) = ([], 8) from HNX.out.s)
            have Er := Aside0.mk (show rightC naC (naX 0) = (0, 8) from HNX.out.r)
            have Ew := Aside0.mk (show witC naC (naX 0) = (0, 8) from HNX.out.w)
            have Ec := Aside0.mk (show cutC naC (naX 0) = (⟨[], []⟩, 8) from HNX.out.c)
            have Ek := Aside0.mk (show tCheck naC (naX 0) = 8 from HNX.out.k)
            clear t0 t1 z0 z1 HNX g0 g1 g2 g3 g4
            clear N
            generalize w8.setCell ⟨gt, 0, none⟩ (.slice none 0 0) = w9 at *
            obtain ⟨g0, g1, g2, g3, g4⟩ := (blk5w (L.out.below C.out.BW).I.BC).1
            obtain ⟨u0, u1⟩ := (blk2t C.out.BT).1
            go_wp2_with fail
            refine (show Calls _ _ #[cv ⟨some ⟨w.heap.size, 0, none⟩, 3, none, 0, some ⟨w.heap.size + 1, 0, none⟩, 3, some ⟨w.heap.size + 1 + 1, 0, none⟩, 1⟩ naC, .agg #[.slice none 0 0, .slice (some ⟨gI, 0, none⟩) 3 cI]] _ _ from traces_States ⟨some ⟨w.heap.size, 0, none⟩, 3, none, 0, some ⟨w.heap.size + 1, 0, none⟩, 3, some ⟨w.heap.size + 1 + 1, 0, none⟩, 1⟩ naC ⟨none, 0, some ⟨gI, 0, none⟩, cI⟩ (naX 0) _ (L.out.below C.out.BW).I.RC na_fits C.out.RT).mono ?_
            rintro e v0 ⟨SA2, sc2, rfl, hr, hb⟩
            rw [Es.out]
            have C := Aside0.mk (C.out.below hb)
            clear hb g0 g1 g2 g3 g4 u0 u1 hr
            obtain ⟨g0, g1, g2, g3, g4⟩ := (blk5w (L.out.below C.out.BW).I.BC).1
            obtain ⟨u0, u1⟩ := (blk2t C.out.BT).1
            go_wp2_with fail
            refine (show Calls _ _ #[cv ⟨some ⟨w.heap.size, 0, none⟩, 3, none, 0, some ⟨w.heap.size + 1, 0, none⟩, 3, some ⟨w.heap.size + 1 + 1, 0, none⟩, 1⟩ naC, .agg #[.slice none 0 0, .slice (some ⟨gI, 0, none⟩) 3 cI]] _ _ from traces_Right ⟨some ⟨w.heap.size, 0, none⟩, 3, none, 0, some ⟨w.heap.size + 1, 0, none⟩, 3, some ⟨w.heap.size + 1 + 1, 0, none⟩, 1⟩ naC ⟨none, 0, some ⟨gI, 0, none⟩, cI⟩ (naX 0) _ (L.out.below C.out.BW).I.RC na_fits C.out.RT).mono ?_
            rintro e v1 ⟨rfl, hb⟩
            rw [Er.out]
            have C := Aside0.mk (C.out.below hb)
            clear hb g0 g1 g2 g3 g4 u0 u1
            obtain ⟨g0, g1, g2, g3, g4⟩ := (blk5w (L.out.below C.out.BW).I.BC).1
            obtain ⟨u0, u1⟩ := (blk2t C.out.BT).1
            go_wp2_with fail
            refine (show Calls _ _ #[cv ⟨some ⟨w.heap.size, 0, none⟩, 3, none, 0, some ⟨w.heap.size + 1, 0, none⟩, 3, some ⟨w.heap.size + 1 + 1, 0, none⟩, 1⟩ naC, .agg #[.slice none 0 0, .slice (some ⟨gI, 0, none⟩) 3 cI]] _ _ from traces_Witness ⟨some ⟨w.heap.size, 0, none⟩, 3, none, 0, some ⟨w.heap.size + 1, 0, none⟩, 3, some ⟨w.heap.size + 1 + 1, 0, none⟩, 1⟩ naC ⟨none, 0, some ⟨gI, 0, none⟩, cI⟩ (naX 0) _ (L.out.below C.out.BW).I.RC na_fits C.out.RT).mono ?_
            rintro e v2 ⟨rfl, hb⟩
            rw [Ew.out]
            have C := Aside0.mk (C.out.below hb)
            clear hb g0 g1 g2 g3 g4 u0 u1
            obtain ⟨g0, g1, g2, g3, g4⟩ := (blk5w (L.out.below C.out.BW).I.BC).1
            obtain ⟨u0, u1⟩ := (blk2t C.out.BT).1
            go_wp2_with fail
            refine (show Calls _ _ #[cv ⟨some ⟨w.heap.size, 0, none⟩, 3, none, 0, some ⟨w.heap.size + 1, 0, none⟩, 3, some ⟨w.heap.size + 1 + 1, 0, none⟩, 1⟩ naC, .agg #[.slice none 0 0, .slice (some ⟨gI, 0, none⟩) 3 cI]] _ _ from traces_Cut ⟨some ⟨w.heap.size, 0, none⟩, 3, none, 0, some ⟨w.heap.size + 1, 0, none⟩, 3, some ⟨w.heap.size + 1 + 1, 0, none⟩, 1⟩ naC ⟨none, 0, some ⟨gI, 0, none⟩, cI⟩ (naX 0) _ (L.out.below C.out.BW).I.RC na_fits C.out.RT).mono ?_
            rintro e v3 ⟨qk, rfl, hr, hb⟩
            rw [Ec.out]
            have C := Aside0.mk (C.out.below hb)
            clear hb g0 g1 g2 g3 g4 u0 u1 hr
            have C := Aside0.mk (C.out.below (below_alloc (Below.refl _ _) (.cells #[.slice qk.A0 0 qk.c0, .slice qk.A1 0 qk.c1] 30)))
            obtain ⟨g0, g1, g2, g3, g4⟩ := (blk5w (L.out.below C.out.BW).I.BC).1
            obtain ⟨u0, u1⟩ := (blk2t C.out.BT).1
            go_wp2_with fail
            refine (show Calls _ _ #[cv ⟨some ⟨w.heap.size, 0, none⟩, 3, none, 0, some ⟨w.heap.size + 1, 0, none⟩, 3, some ⟨w.heap.size + 1 + 1, 0, none⟩, 1⟩ naC, .agg #[.slice none 0 0, .slice (some ⟨gI, 0, none⟩) 3 cI]] _ _ from traces_Check ⟨some ⟨w.heap.size, 0, none⟩, 3, none, 0, some ⟨w.heap.size + 1, 0, none⟩, 3, some ⟨w.heap.size + 1 + 1, 0, none⟩, 1⟩ naC ⟨none, 0, some ⟨gI, 0, none⟩, cI⟩ (naX 0) _ (L.out.below C.out.BW).I.RC na_fits C.out.RT).mono ?_
            rintro e v4 ⟨rfl, hb⟩
            rw [Ek.out]
            have C := Aside0.mk (C.out.below hb)
            clear hb g0 g1 g2 g3 g4 u0 u1
            have L2 := Aside0.mk (L.out.below C.out.BW)
            clear C L Es Er Ew Ec Ek
            go_wp2
            go_roundg (6 - (0 + 1))
            case measure => have := HK.out; omega
            case rel => exact ⟨1, rfl, ⟨by omega, by omega⟩, L2⟩
          · skip
            clear hltI hlt
            obtain ⟨y0, y1⟩ := Kd.R_celln false N.out.F 0 (by omega) (by omega)
            have y0 : w8.cell? ⟨gF, 0, none⟩ = some (.bool false) := y0
            have y1 : w8.frozen? ⟨gF, 0, none⟩ = false := y1
            obtain ⟨g0, g1, g2, g3, g4⟩ := (blk5w (L.out.below N.out.BW).I.BC).1
            go_upto_region 34 with (fail)
            have C := Aside0.mk (N.out.x1)
            have Es := Aside0.mk (show statesC naC (naX 1) = ([], 8) from HNX.out.s)
            have Er := Aside0.mk (show rightC naC (naX 1) = (0, 8) from HNX.out.r)
            have Ew := Aside0.mk (show witC naC (naX 1) = (0, 8) from HNX.out.w)
            have Ec := Aside0.mk (show cutC naC (naX 1) = (⟨[], []⟩, 8) from HNX.out.c)
            have Ek := Aside0.mk (show tCheck naC (naX 1) = 8 from HNX.out.k)
            clear t0 t1 z0 z1 HNX g0 g1 g2 g3 g4 y0 y1
            clear N
            generalize w8.setCell ⟨gF, 0, none⟩ (.bool true) = w9 at *
            obtain ⟨g0, g1, g2, g3, g4⟩ := (blk5w (L.out.below C.out.BW).I.BC).1
            obtain ⟨u0, u1⟩ := (blk2t C.out.BT).1
            go_wp2_with fail
            refine (show Calls _ _ #[cv ⟨some ⟨w.heap.size, 0, none⟩, 3, none, 0, some ⟨w.heap.size + 1, 0, none⟩, 3, some ⟨w.heap.size + 1 + 1, 0, none⟩, 1⟩ naC, .agg #[.slice (some ⟨gF, 0, none⟩) 3 cF, .slice (some ⟨gI, 0, none⟩) 3 cI]] _ _ from traces_States ⟨some ⟨w.heap.size, 0, none⟩, 3, none, 0, some ⟨w.heap.size + 1, 0, none⟩, 3, some ⟨w.heap.size + 1 + 1, 0, none⟩, 1⟩ naC ⟨some ⟨gF, 0, none⟩, cF, some ⟨gI, 0, none⟩, cI⟩ (naX 1) _ (L.out.below C.out.BW).I.RC na_fits C.out.RT).mono ?_
            rintro e v0 ⟨SA2, sc2, rfl, hr, hb⟩
            rw [Es.out]
            have C := Aside0.mk (C.out.below hb)
            clear hb g0 g1 g2 g3 g4 u0 u1 hr
            obtain ⟨g0, g1, g2, g3, g4⟩ := (blk5w (L.out.below C.out.BW).I.BC).1
            obtain ⟨u0, u1⟩ := (blk2t C.out.BT).1
            go_wp2_with fail
            refine (show Calls _ _ #[cv ⟨some ⟨w.heap.size, 0, none⟩, 3, none, 0, some ⟨w.heap.size + 1, 0, none⟩, 3, some ⟨w.heap.size + 1 + 1, 0, none⟩, 1⟩ naC, .agg #[.slice (some ⟨gF, 0, none⟩) 3 cF, .slice (some ⟨gI, 0, none⟩) 3 cI]] _ _ from traces_Right ⟨some ⟨w.heap.size, 0, none⟩, 3, none, 0, some ⟨w.heap.size + 1, 0, none⟩, 3, some ⟨w.heap.size + 1 + 1, 0, none⟩, 1⟩ naC ⟨some ⟨gF, 0, none⟩, cF, some ⟨gI, 0, none⟩, cI⟩ (naX 1) _ (L.out.below C.out.BW).I.RC na_fits C.out.RT).mono ?_
            rintro e v1 ⟨rfl, hb⟩
            rw [Er.out]
            have C := Aside0.mk (C.out.below hb)
            clear hb g0 g1 g2 g3 g4 u0 u1
            obtain ⟨g0, g1, g2, g3, g4⟩ := (blk5w (L.out.below C.out.BW).I.BC).1
            obtain ⟨u0, u1⟩ := (blk2t C.out.BT).1
            go_wp2_with fail
            refine (show Calls _ _ #[cv ⟨some ⟨w.heap.size, 0, none⟩, 3, none, 0, some ⟨w.heap.size + 1, 0, none⟩, 3, some ⟨w.heap.size + 1 + 1, 0, none⟩, 1⟩ naC, .agg #[.slice (some ⟨gF, 0, none⟩) 3 cF, .slice (some ⟨gI, 0, none⟩) 3 cI]] _ _ from traces_Witness ⟨some ⟨w.heap.size, 0, none⟩, 3, none, 0, some ⟨w.heap.size + 1, 0, none⟩, 3, some ⟨w.heap.size + 1 + 1, 0, none⟩, 1⟩ naC ⟨some ⟨gF, 0, none⟩, cF, some ⟨gI, 0, none⟩, cI⟩ (naX 1) _ (L.out.below C.out.BW).I.RC na_fits C.out.RT).mono ?_
            rintro e v2 ⟨rfl, hb⟩
            rw [Ew.out]
            have C := Aside0.mk (C.out.below hb)
            clear hb g0 g1 g2 g3 g4 u0 u1
            obtain ⟨g0, g1, g2, g3, g4⟩ := (blk5w (L.out.below C.out.BW).I.BC).1
            obtain ⟨u0, u1⟩ := (blk2t C.out.BT).1
            go_wp2_with fail
            refine (show Calls _ _ #[cv ⟨some ⟨w.heap.size, 0, none⟩, 3, none, 0, some ⟨w.heap.size + 1, 0, none⟩, 3, some ⟨w.heap.size + 1 + 1, 0, none⟩, 1⟩ naC, .agg #[.slice (some ⟨gF, 0, none⟩) 3 cF, .slice (some ⟨gI, 0, none⟩) 3 cI]] _ _ from traces_Cut ⟨some ⟨w.heap.size, 0, none⟩, 3, none, 0, some ⟨w.heap.size + 1, 0, none⟩, 3, some ⟨w.heap.size + 1 + 1, 0, none⟩, 1⟩ naC ⟨some ⟨gF, 0, none⟩, cF, some ⟨gI, 0, none⟩, cI⟩ (naX 1) _ (L.out.below C.out.BW).I.RC na_fits C.out.RT).mono ?_
            rintro e v3 ⟨qk, rfl, hr, hb⟩
            rw [Ec.out]
            have C := Aside0.mk (C.out.below hb)
            clear hb g0 g1 g2 g3 g4 u0 u1 hr
            have C := Aside0.mk (C.out.below (below_alloc (Below.refl _ _) (.cells #[.slice qk.A0 0 qk.c0, .slice qk.A1 0 qk.c1] 30)))
            obtain ⟨g0, g1, g2, g3, g4⟩ := (blk5w (L.out.below C.out.BW).I.BC).1
            obtain ⟨u0, u1⟩ := (blk2t C.out.BT).1
            go_wp2_with fail
            refine (show Calls _ _ #[cv ⟨some ⟨w.heap.size, 0, none⟩, 3, none, 0, some ⟨w.heap.size + 1, 0, none⟩, 3, some ⟨w.heap.size + 1 + 1, 0, none⟩, 1⟩ naC, .agg #[.slice (some ⟨gF, 0, none⟩) 3 cF, .slice (some ⟨gI, 0, none⟩) 3 cI]] _ _ from traces_Check ⟨some ⟨w.heap.size, 0, none⟩, 3, none, 0, some ⟨w.heap.size + 1, 0, none⟩, 3, some ⟨w.heap.size + 1 + 1, 0, none⟩, 1⟩ naC ⟨some ⟨gF, 0, none⟩, cF, some ⟨gI, 0, none⟩, cI⟩ (naX 1) _ (L.out.below C.out.BW).I.RC na_fits C.out.RT).mono ?_
            rintro e v4 ⟨rfl, hb⟩
            rw [Ek.out]
            have C := Aside0.mk (C.out.below hb)
            clear hb g0 g1 g2 g3 g4 u0 u1
            have L2 := Aside0.mk (L.out.below C.out.BW)
            clear C L Es Er Ew Ec Ek
            go_wp2
            go_roundg (6 - (1 + 1))
            case measure => have := HK.out; omega
            case rel => exact ⟨2, rfl, ⟨by omega, by omega⟩, L2⟩
          · skip
            clear hltI hlt
            obtain ⟨y0, y1⟩ := Kd.R_celln false N.out.F 1 (by omega) (by omega)
            have y0 : w8.cell? ⟨gF, 1, none⟩ = some (.bool true) := y0
            have y1 : w8.frozen? ⟨gF, 1, none⟩ = false := y1
            obtain ⟨g0, g1, g2, g3, g4⟩ := (blk5w (L.out.below N.out.BW).I.BC).1
            go_upto_region 34 with (fail)
            have C := Aside0.mk (N.out.x2)
            have Es := Aside0.mk (show statesC naC (naX 2) = ([], 8) from HNX.out.s)
            have Er := Aside0.mk (show rightC naC (naX 2) = (0, 8) from HNX.out.r)
            have Ew := Aside0.mk (show witC naC (naX 2) = (0, 8) from HNX.out.w)
            have Ec := Aside0.mk (show cutC naC (naX 2) = (⟨[], []⟩, 8) from HNX.out.c)
            have Ek := Aside0.mk (show tCheck naC (naX 2) = 8 from HNX.out.k)
            clear t0 t1 z0 z1 HNX g0 g1 g2 g3 g4 y0 y1
            clear N
            generalize w8.setCell ⟨gF, 1, none⟩ (.bool false) = w9 at *
            obtain ⟨g0, g1, g2, g3, g4⟩ := (blk5w (L.out.below C.out.BW).I.BC).1
            obtain ⟨u0, u1⟩ := (blk2t C.out.BT).1
            go_wp2_with fail
            refine (show Calls _ _ #[cv ⟨some ⟨w.heap.size, 0, none⟩, 3, none, 0, some ⟨w.heap.size + 1, 0, none⟩, 3, some ⟨w.heap.size + 1 + 1, 0, none⟩, 1⟩ naC, .agg #[.slice (some ⟨gF, 0, none⟩) 3 cF, .slice (some ⟨gI, 0, none⟩) 3 cI]] _ _ from traces_States ⟨some ⟨w.heap.size, 0, none⟩, 3, none, 0, some ⟨w.heap.size + 1, 0, none⟩, 3, some ⟨w.heap.size + 1 + 1, 0, none⟩, 1⟩ naC ⟨some ⟨gF, 0, none⟩, cF, some ⟨gI, 0, none⟩, cI⟩ (naX 2) _ (L.out.below C.out.BW).I.RC na_fits C.out.RT).mono ?_
            rintro e v0 ⟨SA2, sc2, rfl, hr, hb⟩
            rw [Es.out]
            have C := Aside0.mk (C.out.below hb)
            clear hb g0 g1 g2 g3 g4 u0 u1 hr
            obtain ⟨g0, g1, g2, g3, g4⟩ := (blk5w (L.out.below C.out.BW).I.BC).1
            obtain ⟨u0, u1⟩ := (blk2t C.out.BT).1
            go_wp2_with fail
            refine (show Calls _ _ #[cv ⟨some ⟨w.heap.size, 0, none⟩, 3, none, 0, some ⟨w.heap.size + 1, 0, none⟩, 3, some ⟨w.heap.size + 1 + 1, 0, none⟩, 1⟩ naC, .agg #[.slice (some ⟨gF, 0, none⟩) 3 cF, .slice (some ⟨gI, 0, none⟩) 3 cI]] _ _ from traces_Right ⟨some ⟨w.heap.size, 0, none⟩, 3, none, 0, some ⟨w.heap.size + 1, 0, none⟩, 3, some ⟨w.heap.size + 1 + 1, 0, none⟩, 1⟩ naC ⟨some ⟨gF, 0, none⟩, cF, some ⟨gI, 0, none⟩, cI⟩ (naX 2) _ (L.out.below C.out.BW).I.RC na_fits C.out.RT).mono ?_
            rintro e v1 ⟨rfl, hb⟩
            rw [Er.out]
            have C := Aside0.mk (C.out.below hb)
            clear hb g0 g1 g2 g3 g4 u0 u1
            obtain ⟨g0, g1, g2, g3, g4⟩ := (blk5w (L.out.below C.out.BW).I.BC).1
            obtain ⟨u0, u1⟩ := (blk2t C.out.BT).1
            go_wp2_with fail
            refine (show Calls _ _ #[cv ⟨some ⟨w.heap.size, 0, none⟩, 3, none, 0, some ⟨w.heap.size + 1, 0, none⟩, 3, some ⟨w.heap.size + 1 + 1, 0, none⟩, 1⟩ naC, .agg #[.slice (some ⟨gF, 0, none⟩) 3 cF, .slice (some ⟨gI, 0, none⟩) 3 cI]] _ _ from traces_Witness ⟨some ⟨w.heap.size, 0, none⟩, 3, none, 0, some ⟨w.heap.size + 1, 0, none⟩, 3, some ⟨w.heap.size + 1 + 1, 0, none⟩, 1⟩ naC ⟨some ⟨gF, 0, none⟩, cF, some ⟨gI, 0, none⟩, cI⟩ (naX 2) _ (L.out.below C.out.BW).I.RC na_fits C.out.RT).mono ?_
            rintro e v2 ⟨rfl, hb⟩
            rw [Ew.out]
            have C := Aside0.mk (C.out.below hb)
            clear hb g0 g1 g2 g3 g4 u0 u1
            obtain ⟨g0, g1, g2, g3, g4⟩ := (blk5w (L.out.below C.out.BW).I.BC).1
            obtain ⟨u0, u1⟩ := (blk2t C.out.BT).1
            go_wp2_with fail
            refine (show Calls _ _ #[cv ⟨some ⟨w.heap.size, 0, none⟩, 3, none, 0, some ⟨w.heap.size + 1, 0, none⟩, 3, some ⟨w.heap.size + 1 + 1, 0, none⟩, 1⟩ naC, .agg #[.slice (some ⟨gF, 0, none⟩) 3 cF, .slice (some ⟨gI, 0, none⟩) 3 cI]] _ _ from traces_Cut ⟨some ⟨w.heap.size, 0, none⟩, 3, none, 0, some ⟨w.heap.size + 1, 0, none⟩, 3, some ⟨w.heap.size + 1 + 1, 0, none⟩, 1⟩ naC ⟨some ⟨gF, 0, none⟩, cF, some ⟨gI, 0, none⟩, cI⟩ (naX 2) _ (L.out.below C.out.BW).I.RC na_fits C.out.RT).mono ?_
            rintro e v3 ⟨qk, rfl, hr, hb⟩
            rw [Ec.out]
            have C := Aside0.mk (C.out.below hb)
            clear hb g0 g1 g2 g3 g4 u0 u1 hr
            have C := Aside0.mk (C.out.below (below_alloc (Below.refl _ _) (.cells #[.slice qk.A0 0 qk.c0, .slice qk.A1 0 qk.c1] 30)))
            obtain ⟨g0, g1, g2, g3, g4⟩ := (blk5w (L.out.below C.out.BW).I.BC).1
            obtain ⟨u0, u1⟩ := (blk2t C.out.BT).1
            go_wp2_with fail
            refine (show Calls _ _ #[cv ⟨some ⟨w.heap.size, 0, none⟩, 3, none, 0, some ⟨w.heap.size + 1, 0, none⟩, 3, some ⟨w.heap.size + 1 + 1, 0, none⟩, 1⟩ naC, .agg #[.slice (some ⟨gF, 0, none⟩) 3 cF, .slice (some ⟨gI, 0, none⟩) 3 cI]] _ _ from traces_Check ⟨some ⟨w.heap.size, 0, none⟩, 3, none, 0, some ⟨w.heap.size + 1, 0, none⟩, 3, some ⟨w.heap.size + 1 + 1, 0, none⟩, 1⟩ naC ⟨some ⟨gF, 0, none⟩, cF, some ⟨gI, 0, none⟩, cI⟩ (naX 2) _ (L.out.below C.out.BW).I.RC na_fits C.out.RT).mono ?_
            rintro e v4 ⟨rfl, hb⟩
            rw [Ek.out]
            have C := Aside0.mk (C.out.below hb)
            clear hb g0 g1 g2 g3 g4 u0 u1
            have L2 := Aside0.mk (L.out.below C.out.BW)
            clear C L Es Er Ew Ec Ek
            go_wp2
            go_roundg (6 - (2 + 1))
            case measure => have := HK.out; omega
            case rel => exact ⟨3, rfl, ⟨by omega, by omega⟩, L2⟩
          · skip
            clear hltI hlt
            obtain ⟨g0, g1, g2, g3, g4⟩ := (blk5w (L.out.below N.out.BW).I.BC).1
            go_upto_region 34 with (fail)
            have C := Aside0.mk (N.out.x3)
            have Es := Aside0.mk (show statesC naC (naX 3) = ([], 8) from HNX.out.s)
            have Er := Aside0.mk (show rightC naC (naX 3) = (0, 8) from HNX.out.r)
            have Ew := Aside0.mk (show witC naC (naX 3) = (0, 8) from HNX.out.w)
            have Ec := Aside0.mk (show cutC naC (naX 3) = (⟨[], []⟩, 8) from HNX.out.c)
            have Ek := Aside0.mk (show tCheck naC (naX 3) = 8 from HNX.out.k)
            clear t0 t1 z0 z1 HNX g0 g1 g2 g3 g4
            clear N
            generalize w8.setCell ⟨gt, 1, none⟩ (.slice none 0 0) = w9 at *
            obtain ⟨g0, g1, g2, g3, g4⟩ := (blk5w (L.out.below C.out.BW).I.BC).1
            obtain ⟨u0, u1⟩ := (blk2t C.out.BT).1
            go_wp2_with fail
            refine (show Calls _ _ #[cv ⟨some ⟨w.heap.size, 0, none⟩, 3, none, 0, some ⟨w.heap.size + 1, 0, none⟩, 3, some ⟨w.heap.size + 1 + 1, 0, none⟩, 1⟩ naC, .agg #[.slice (some ⟨gF, 0, none⟩) 3 cF, .slice none 0 0]] _ _ from traces_States ⟨some ⟨w.heap.size, 0, none⟩, 3, none, 0, some ⟨w.heap.size + 1, 0, none⟩, 3, some ⟨w.heap.size + 1 + 1, 0, none⟩, 1⟩ naC ⟨some ⟨gF, 0, none⟩, cF, none, 0⟩ (naX 3) _ (L.out.below C.out.BW).I.RC na_fits C.out.RT).mono ?_
            rintro e v0 ⟨SA2, sc2, rfl, hr, hb⟩
            rw [Es.out]
            have C := Aside0.mk (C.out.below hb)
            clear hb g0 g1 g2 g3 g4 u0 u1 hr
            obtain ⟨g0, g1, g2, g3, g4⟩ := (blk5w (L.out.below C.out.BW).I.BC).1
            obtain ⟨u0, u1⟩ := (blk2t C.out.BT).1
            go_wp2_with fail
            refine (show Calls _ _ #[cv ⟨some ⟨w.heap.size, 0, none⟩, 3, none, 0, some ⟨w.heap.size + 1, 0, none⟩, 3, some ⟨w.heap.size + 1 + 1, 0, none⟩, 1⟩ naC, .agg #[.slice (some ⟨gF, 0, none⟩) 3 cF, .slice none 0 0]] _ _ from traces_Right ⟨some ⟨w.heap.size, 0, none⟩, 3, none, 0, some ⟨w.heap.size + 1, 0, none⟩, 3, some ⟨w.heap.size + 1 + 1, 0, none⟩, 1⟩ naC ⟨some ⟨gF, 0, none⟩, cF, none, 0⟩ (naX 3) _ (L.out.below C.out.BW).I.RC na_fits C.out.RT).mono ?_
            rintro e v1 ⟨rfl, hb⟩
            rw [Er.out]
            have C := Aside0.mk (C.out.below hb)
            clear hb g0 g1 g2 g3 g4 u0 u1
            obtain ⟨g0, g1, g2, g3, g4⟩ := (blk5w (L.out.below C.out.BW).I.BC).1
            obtain ⟨u0, u1⟩ := (blk2t C.out.BT).1
            go_wp2_with fail
            refine (show Calls _ _ #[cv ⟨some ⟨w.heap.size, 0, none⟩, 3, none, 0, some ⟨w.heap.size + 1, 0, none⟩, 3, some ⟨w.heap.size + 1 + 1, 0, none⟩, 1⟩ naC, .agg #[.slice (some ⟨gF, 0, none⟩) 3 cF, .slice none 0 0]] _ _ from traces_Witness ⟨some ⟨w.heap.size, 0, none⟩, 3, none, 0, some ⟨w.heap.size + 1, 0, none⟩, 3, some ⟨w.heap.size + 1 + 1, 0, none⟩, 1⟩ naC ⟨some ⟨gF, 0, none⟩, cF, none, 0⟩ (naX 3) _ (L.out.below C.out.BW).I.RC na_fits C.out.RT).mono ?_
            rintro e v2 ⟨rfl, hb⟩
            rw [Ew.out]
            have C := Aside0.mk (C.out.below hb)
            clear hb g0 g1 g2 g3 g4 u0 u1
            obtain ⟨g0, g1, g2, g3, g4⟩ := (blk5w (L.out.below C.out.BW).I.BC).1
            obtain ⟨u0, u1⟩ := (blk2t C.out.BT).1
            go_wp2_with fail
            refine (show Calls _ _ #[cv ⟨some ⟨w.heap.size, 0, none⟩, 3, none, 0, some ⟨w.heap.size + 1, 0, none⟩, 3, some ⟨w.heap.size + 1 + 1, 0, none⟩, 1⟩ naC, .agg #[.slice (some ⟨gF, 0, none⟩) 3 cF, .slice none 0 0]] _ _ from traces_Cut ⟨some ⟨w.heap.size, 0, none⟩, 3, none, 0, some ⟨w.heap.size + 1, 0, none⟩, 3, some ⟨w.heap.size + 1 + 1, 0, none⟩, 1⟩ naC ⟨some ⟨gF, 0, none⟩, cF, none, 0⟩ (naX 3) _ (L.out.below C.out.BW).I.RC na_fits C.out.RT).mono ?_
            rintro e v3 ⟨qk, rfl, hr, hb⟩
            rw [Ec.out]
            have C := Aside0.mk (C.out.below hb)
            clear hb g0 g1 g2 g3 g4 u0 u1 hr
            have C := Aside0.mk (C.out.below (below_alloc (Below.refl _ _) (.cells #[.slice qk.A0 0 qk.c0, .slice qk.A1 0 qk.c1] 30)))
            obtain ⟨g0, g1, g2, g3, g4⟩ := (blk5w (L.out.below C.out.BW).I.BC).1
            obtain ⟨u0, u1⟩ := (blk2t C.out.BT).1
            go_wp2_with fail
            refine (show Calls _ _ #[cv ⟨some ⟨w.heap.size, 0, none⟩, 3, none, 0, some ⟨w.heap.size + 1, 0, none⟩, 3, some ⟨w.heap.size + 1 + 1, 0, none⟩, 1⟩ naC, .agg #[.slice (some ⟨gF, 0, none⟩) 3 cF, .slice none 0 0]] _ _ from traces_Check ⟨some ⟨w.heap.size, 0, none⟩, 3, none, 0, some ⟨w.heap.size + 1, 0, none⟩, 3, some ⟨w.heap.size + 1 + 1, 0, none⟩, 1⟩ naC ⟨some ⟨gF, 0, none⟩, cF, none, 0⟩ (naX 3) _ (L.out.below C.out.BW).I.RC na_fits C.out.RT).mono ?_
            rintro e v4 ⟨rfl, hb⟩
            rw [Ek.out]
            have C := Aside0.mk (C.out.below hb)
            clear hb g0 g1 g2 g3 g4 u0 u1
            have L2 := Aside0.mk (L.out.below C.out.BW)
            clear C L Es Er Ew Ec Ek
            go_wp2
            go_roundg (6 - (3 + 1))
            case measure => have := HK.out; omega
            case rel => exact ⟨4, rfl, ⟨by omega, by omega⟩, L2⟩
          · skip
            clear hltI hlt
            have HI_ := Kd.R_below N.out.I (below_alloc (Below.refl w8.heap.size w8) (.cells #[.bool true, .bool true] 4))
            obtain ⟨cc, hcc, _, hcl, hfr⟩ := Kd.R_elem HI_ [] 2 (by omega) (by omega)
            obtain ⟨c0, rfl⟩ : ∃ c0, cc = [c0] := by match cc, hcc with | [c0], _ => exact ⟨c0, rfl⟩
            have y0 : (w8.alloc (.cells #[.bool true, .bool true] 4)).cell? ⟨gI, 2, none⟩ = some c0 := hcl 0 c0 rfl
            have y1 : (w8.alloc (.cells #[.bool true, .bool true] 4)).frozen? ⟨gI, 2, none⟩ = false := hfr 0
            clear HI_ hcc hcl hfr
            obtain ⟨g0, g1, g2, g3, g4⟩ := (blk5w (L.out.below N.out.BW).I.BC).1
            go_upto_region 34 with (fail)
            have C := Aside0.mk (N.out.x4)
            have Es := Aside0.mk (show statesC naC (naX 4) = ([], 8) from HNX.out.s)
            have Er := Aside0.mk (show rightC naC (naX 4) = (0, 8) from HNX.out.r)
            have Ew := Aside0.mk (show witC naC (naX 4) = (0, 8) from HNX.out.w)
            have Ec := Aside0.mk (show cutC naC (naX 4) = (⟨[], []⟩, 8) from HNX.out.c)
            have Ek := Aside0.mk (show tCheck naC (naX 4) = 8 from HNX.out.k)
            clear t0 t1 z0 z1 HNX g0 g1 g2 g3 g4 y0 y1
            clear N
            generalize (w8.alloc (.cells #[.bool true, .bool true] 4)).setCell ⟨gI, 2, none⟩ (.slice (some ⟨w8.heap.size, 0, none⟩) 2 2) = w9 at *
            obtain ⟨g0, g1, g2, g3, g4⟩ := (blk5w (L.out.below C.out.BW).I.BC).1
            obtain ⟨u0, u1⟩ := (blk2t C.out.BT).1
            go_wp2_with fail
            refine (show Calls _ _ #[cv ⟨some ⟨w.heap.size, 0, none⟩, 3, none, 0, some ⟨w.heap.size + 1, 0, none⟩, 3, some ⟨w.heap.size + 1 + 1, 0, none⟩, 1⟩ naC, .agg #[.slice (some ⟨gF, 0, none⟩) 3 cF, .slice (some ⟨gI, 0, none⟩) 3 cI]] _ _ from traces_States ⟨some ⟨w.heap.size, 0, none⟩, 3, none, 0, some ⟨w.heap.size + 1, 0, none⟩, 3, some ⟨w.heap.size + 1 + 1, 0, none⟩, 1⟩ naC ⟨some ⟨gF, 0, none⟩, cF, some ⟨gI, 0, none⟩, cI⟩ (naX 4) _ (L.out.below C.out.BW).I.RC na_fits C.out.RT).mono ?_
            rintro e v0 ⟨SA2, sc2, rfl, hr, hb⟩
            rw [Es.out]
            have C := Aside0.mk (C.out.below hb)
            clear hb g0 g1 g2 g3 g4 u0 u1 hr
            obtain ⟨g0, g1, g2, g3, g4⟩ := (blk5w (L.out.below C.out.BW).I.BC).1
            obtain ⟨u0, u1⟩ := (blk2t C.out.BT).1
            go_wp2_with fail
            refine (show Calls _ _ #[cv ⟨some ⟨w.heap.size, 0, none⟩, 3, none, 0, some ⟨w.heap.size + 1, 0, none⟩, 3, some ⟨w.heap.size + 1 + 1, 0, none⟩, 1⟩ naC, .agg #[.slice (some ⟨gF, 0, none⟩) 3 cF, .slice (some ⟨gI, 0, none⟩) 3 cI]] _ _ from traces_Right ⟨some ⟨w.heap.size, 0, none⟩, 3, none, 0, some ⟨w.heap.size + 1, 0, none⟩, 3, some ⟨w.heap.size + 1 + 1, 0, none⟩, 1⟩ naC ⟨some ⟨gF, 0, none⟩, cF, some ⟨gI, 0, none⟩, cI⟩ (naX 4) _ (L.out.below C.out.BW).I.RC na_fits C.out.RT).mono ?_
            rintro e v1 ⟨rfl, hb⟩
            rw [Er.out]
            have C := Aside0.mk (C.out.below hb)
            clear hb g0 g1 g2 g3 g4 u0 u1
            obtain ⟨g0, g1, g2, g3, g4⟩ := (blk5w (L.out.below C.out.BW).I.BC).1
            obtain ⟨u0, u1⟩ := (blk2t C.out.BT).1
            go_wp2_with fail
            refine (show Calls _ _ #[cv ⟨some ⟨w.heap.size, 0, none⟩, 3, none, 0, some ⟨w.heap.size + 1, 0, none⟩, 3, some ⟨w.heap.size + 1 + 1, 0, none⟩, 1⟩ naC, .agg #[.slice (some ⟨gF, 0, none⟩) 3 cF, .slice (some ⟨gI, 0, none⟩) 3 cI]] _ _ from traces_Witness ⟨some ⟨w.heap.size, 0, none⟩, 3, none, 0, some ⟨w.heap.size + 1, 0, none⟩, 3, some ⟨w.heap.size + 1 + 1, 0, none⟩, 1⟩ naC ⟨some ⟨gF, 0, none⟩, cF, some ⟨gI, 0, none⟩, cI⟩ (naX 4) _ (L.out.below C.out.BW).I.RC na_fits C.out.RT).mono ?_
            rintro e v2 ⟨rfl, hb⟩
            rw [Ew.out]
            have C := Aside0.mk (C.out.below hb)
            clear hb g0 g1 g2 g3 g4 u0 u1
            obtain ⟨g0, g1, g2, g3, g4⟩ := (blk5w (L.out.below C.out.BW).I.BC).1
            obtain ⟨u0, u1⟩ := (blk2t C.out.BT).1
            go_wp2_with fail
            refine (show Calls _ _ #[cv ⟨some ⟨w.heap.size, 0, none⟩, 3, none, 0, some ⟨w.heap.size + 1, 0, none⟩, 3, some ⟨w.heap.size + 1 + 1, 0, none⟩, 1⟩ naC, .agg #[.slice (some ⟨gF, 0, none⟩) 3 cF, .slice (some ⟨gI, 0, none⟩) 3 cI]] _ _ from traces_Cut ⟨some ⟨w.heap.size, 0, none⟩, 3, none, 0, some ⟨w.heap.size + 1, 0, none⟩, 3, some ⟨w.heap.size + 1 + 1, 0, none⟩, 1⟩ naC ⟨some ⟨gF, 0, none⟩, cF, some ⟨gI, 0, none⟩, cI⟩ (naX 4) _ (L.out.below C.out.BW).I.RC na_fits C.out.RT).mono ?_
            rintro e v3 ⟨qk, rfl, hr, hb⟩
            rw [Ec.out]
            have C := Aside0.mk (C.out.below hb)
            clear hb g0 g1 g2 g3 g4 u0 u1 hr
            have C := Aside0.mk (C.out.below (below_alloc (Below.refl _ _) (.cells #[.slice qk.A0 0 qk.c0, .slice qk.A1 0 qk.c1] 30)))
            obtain ⟨g0, g1, g2, g3, g4⟩ := (blk5w (L.out.below C.out.BW).I.BC).1
            obtain ⟨u0, u1⟩ := (blk2t C.out.BT).1
            go_wp2_with fail
            refine (show Calls _ _ #[cv ⟨some ⟨w.heap.size, 0, none⟩, 3, none, 0, some ⟨w.heap.size + 1, 0, none⟩, 3, some ⟨w.heap.size + 1 + 1, 0, none⟩, 1⟩ naC, .agg #[.slice (some ⟨gF, 0, none⟩) 3 cF, .slice (some ⟨gI, 0, none⟩) 3 cI]] _ _ from traces_Check ⟨some ⟨w.heap.size, 0, none⟩, 3, none, 0, some ⟨w.heap.size + 1, 0, none⟩, 3, some ⟨w.heap.size + 1 + 1, 0, none⟩, 1⟩ naC ⟨some ⟨gF, 0, none⟩, cF, some ⟨gI, 0, none⟩, cI⟩ (naX 4) _ (L.out.below C.out.BW).I.RC na_fits C.out.RT).mono ?_
            rintro e v4 ⟨rfl, hb⟩
            rw [Ek.out]
            have C := Aside0.mk (C.out.below hb)
            clear hb g0 g1 g2 g3 g4 u0 u1
            have L2 := Aside0.mk (L.out.below C.out.BW)
            clear C L Es Er Ew Ec Ek
            go_wp2
            go_roundg (6 - (4 + 1))
            case measure => have := HK.out; omega
            case rel => exact ⟨5, rfl, ⟨by omega, by omega⟩, L2⟩
          · skip
            clear hltI hlt
            obtain ⟨cs, hmk0, hrs⟩ := make_nils 101 (by decide)
            have hmk : ∀ W : World, (Instr.makeSlice 28 (.int .i64 101) (.int .i64 101)).run Try.prog W = .ok (.slice (some ⟨W.heap.size, 0, none⟩) 101 101) (W.alloc (.cells cs 27)) := hmk0
            have HRS := Aside0.mk hrs
            clear hmk0 hrs
            obtain ⟨⟨s0, s1⟩, x0, x1⟩ := blk2t (blk_alloc N.out.BT (.cells cs 27))
            obtain ⟨g0, g1, g2, g3, g4⟩ := (blk5w (L.out.below N.out.BW).I.BC).1
            go_upto_region 34 with (fail)
            have C := Aside0.mk (N.out.x5 HRS.out)
            have Es := Aside0.mk (show statesC naC (naX 5) = ([], 4) from HNX.out.s)
            have Er := Aside0.mk (show rightC naC (naX 5) = (0, 4) from HNX.out.r)
            have Ew := Aside0.mk (show witC naC (naX 5) = (0, 4) from HNX.out.w)
            have Ec := Aside0.mk (show cutC naC (naX 5) = (⟨[], []⟩, 4) from HNX.out.c)
            have Ek := Aside0.mk (show tCheck naC (naX 5) = 4 from HNX.out.k)
            clear t0 t1 z0 z1 HNX g0 g1 g2 g3 g4 s0 s1 x0 x1 HRS hmk
            generalize (w8.alloc (.cells cs 27)).setCell ⟨gt, 1, none⟩ (.slice (some ⟨w8.heap.size, 0, none⟩) 101 101) = w9 at *
            generalize w8.heap.size = gN at *
            obtain ⟨g0, g1, g2, g3, g4⟩ := (blk5w (L.out.below C.out.BW).I.BC).1
            obtain ⟨u0, u1⟩ := (blk2t C.out.BT).1
            go_wp2_with fail
            refine (show Calls _ _ #[cv ⟨some ⟨w.heap.size, 0, none⟩, 3, none, 0, some ⟨w.heap.size + 1, 0, none⟩, 3, some ⟨w.heap.size + 1 + 1, 0, none⟩, 1⟩ naC, .agg #[.slice (some ⟨gF, 0, none⟩) 3 cF, .slice (some ⟨gN, 0, none⟩) 101 101]] _ _ from traces_States ⟨some ⟨w.heap.size, 0, none⟩, 3, none, 0, some ⟨w.heap.size + 1, 0, none⟩, 3, some ⟨w.heap.size + 1 + 1, 0, none⟩, 1⟩ naC ⟨some ⟨gF, 0, none⟩, cF, some ⟨gN, 0, none⟩, 101⟩ (naX 5) _ (L.out.below C.out.BW).I.RC na_fits C.out.RT).mono ?_
            rintro e v0 ⟨SA2, sc2, rfl, hr, hb⟩
            rw [Es.out]
            have C := Aside0.mk (C.out.below hb)
            clear hb g0 g1 g2 g3 g4 u0 u1 hr
            obtain ⟨g0, g1, g2, g3, g4⟩ := (blk5w (L.out.below C.out.BW).I.BC).1
            obtain ⟨u0, u1⟩ := (blk2t C.out.BT).1
            go_wp2_with fail
            refine (show Calls _ _ #[cv ⟨some ⟨w.heap.size, 0, none⟩, 3, none, 0, some ⟨w.heap.size + 1, 0, none⟩, 3, some ⟨w.heap.size + 1 + 1, 0, none⟩, 1⟩ naC, .agg #[.slice (some ⟨gF, 0, none⟩) 3 cF, .slice (some ⟨gN, 0, none⟩) 101 101]] _ _ from traces_Right ⟨some ⟨w.heap.size, 0, none⟩, 3, none, 0, some ⟨w.heap.size + 1, 0, none⟩, 3, some ⟨w.heap.size + 1 + 1, 0, none⟩, 1⟩ naC ⟨some ⟨gF, 0, none⟩, cF, some ⟨gN, 0, none⟩, 101⟩ (naX 5) _ (L.out.below C.out.BW).I.RC na_fits C.out.RT).mono ?_
            rintro e v1 ⟨rfl, hb⟩
            rw [Er.out]
            have C := Aside0.mk (C.out.below hb)
            clear hb g0 g1 g2 g3 g4 u0 u1
            obtain ⟨g0, g1, g2, g3, g4⟩ := (blk5w (L.out.below C.out.BW).I.BC).1
            obtain ⟨u0, u1⟩ := (blk2t C.out.BT).1
            go_wp2_with fail
            refine (show Calls _ _ #[cv ⟨some ⟨w.heap.size, 0, none⟩, 3, none, 0, some ⟨w.heap.size + 1, 0, none⟩, 3, some ⟨w.heap.size + 1 + 1, 0, none⟩, 1⟩ naC, .agg #[.slice (some ⟨gF, 0, none⟩) 3 cF, .slice (some ⟨gN, 0, none⟩) 101 101]] _ _ from traces_Witness ⟨some ⟨w.heap.size, 0, none⟩, 3, none, 0, some ⟨w.heap.size + 1, 0, none⟩, 3, some ⟨w.heap.size + 1 + 1, 0, none⟩, 1⟩ naC ⟨some ⟨gF, 0, none⟩, cF, some ⟨gN, 0, none⟩, 101⟩ (naX 5) _ (L.out.below C.out.BW).I.RC na_fits C.out.RT).mono ?_
            rintro e v2 ⟨rfl, hb⟩
            rw [Ew.out]
            have C := Aside0.mk (C.out.below hb)
            clear hb g0 g1 g2 g3 g4 u0 u1
            obtain ⟨g0, g1, g2, g3, g4⟩ := (blk5w (L.out.below C.out.BW).I.BC).1
            obtain ⟨u0, u1⟩ := (blk2t C.out.BT).1
            go_wp2_with fail
            refine (show Calls _ _ #[cv ⟨some ⟨w.heap.size, 0, none⟩, 3, none, 0, some ⟨w.heap.size + 1, 0, none⟩, 3, some ⟨w.heap.size + 1 + 1, 0, none⟩, 1⟩ naC, .agg #[.slice (some ⟨gF, 0, none⟩) 3 cF, .slice (some ⟨gN, 0, none⟩) 101 101]] _ _ from traces_Cut ⟨some ⟨w.heap.size, 0, none⟩, 3, none, 0, some ⟨w.heap.size + 1, 0, none⟩, 3, some ⟨w.heap.size + 1 + 1, 0, none⟩, 1⟩ naC ⟨some ⟨gF, 0, none⟩, cF, some ⟨gN, 0, none⟩, 101⟩ (naX 5) _ (L.out.below C.out.BW).I.RC na_fits C.out.RT).mono ?_
            rintro e v3 ⟨qk, rfl, hr, hb⟩
            rw [Ec.out]
            have C := Aside0.mk (C.out.below hb)
            clear hb g0 g1 g2 g3 g4 u0 u1 hr
            have C := Aside0.mk (C.out.below (below_alloc (Below.refl _ _) (.cells #[.slice qk.A0 0 qk.c0, .slice qk.A1 0 qk.c1] 30)))
            obtain ⟨g0, g1, g2, g3, g4⟩ := (blk5w (L.out.below C.out.BW).I.BC).1
            obtain ⟨u0, u1⟩ := (blk2t C.out.BT).1
            go_wp2_with fail
            refine (show Calls _ _ #[cv ⟨some ⟨w.heap.size, 0, none⟩, 3, none, 0, some ⟨w.heap.size + 1, 0, none⟩, 3, some ⟨w.heap.size + 1 + 1, 0, none⟩, 1⟩ naC, .agg #[.slice (some ⟨gF, 0, none⟩) 3 cF, .slice (some ⟨gN, 0, none⟩) 101 101]] _ _ from traces_Check ⟨some ⟨w.heap.size, 0, none⟩, 3, none, 0, some ⟨w.heap.size + 1, 0, none⟩, 3, some ⟨w.heap.size + 1 + 1, 0, none⟩, 1⟩ naC ⟨some ⟨gF, 0, none⟩, cF, some ⟨gN, 0, none⟩, 101⟩ (naX 5) _ (L.out.below C.out.BW).I.RC na_fits C.out.RT).mono ?_
            rintro e v4 ⟨rfl, hb⟩
            rw [Ek.out]
            have C := Aside0.mk (C.out.below hb)
            clear hb g0 g1 g2 g3 g4 u0 u1
            have L2 := Aside0.mk (L.out.below C.out.BW)
            clear C L Es Er Ew Ec Ek
            go_wp2
            go_roundg (6 - (5 + 1))
            case measure => have := HK.out; omega
            case rel => exact ⟨6, rfl, ⟨by omega, by omega⟩, L2⟩
        · have hltI : ¬ (i : Int) < 6 := by omega
          clear HK hlt u0 u1
          obtain ⟨g0, g1, g2, g3, g4⟩ := (blk5w L.out.I.BC).1
          go_wp2_with fail
          refine (show Calls _ _ #[cv ⟨some ⟨w.heap.size, 0, none⟩, 3, none, 0, some ⟨w.heap.size + 1, 0, none⟩, 3, some ⟨w.heap.size + 1 + 1, 0, none⟩, 1⟩ naC, .slice none 0 0] _ _ from traces_First ⟨some ⟨w.heap.size, 0, none⟩, 3, none, 0, some ⟨w.heap.size + 1, 0, none⟩, 3, some ⟨w.heap.size + 1 + 1, 0, none⟩, 1⟩ naC none 0 [] _ L.out.I.RC na_fits (RS.nil _ _ _)).mono ?_
          rintro e x1 ⟨rfl, hb⟩
          rw [na7]
          have L := Aside0.mk (L.out.below hb)
          clear hb
          clear g0 g1 g2 g3 g4
          go_wp2_with fail
          refine (show Calls _ _ #[cv ⟨none, 0, none, 0, none, 0, none, 0⟩ negC, .slice none 0 0] _ _ from traces_First ⟨none, 0, none, 0, none, 0, none, 0⟩ negC none 0 [] _ ⟨RS.nil _ _ _, RS.nil _ _ _, RS.nil _ _ _, RS.nil _ _ _⟩ neg_fits (RS.nil _ _ _)).mono ?_
          rintro e x2 ⟨rfl, hb⟩
          rw [na8]
          have L := Aside0.mk (L.out.below hb)
          clear hb
          go_wp2_with fail
          refine (law06_example _).mono ?_
          rintro e x3 ⟨pe, rfl, hr, hb⟩
          have L := Aside0.mk (L.out.below hb)
          have HP := Aside0.mk hr
          clear hb hr
          go_wp2_with fail
          refine (show Calls _ _ #[.int .i64 1] _ _ from law06_run 1 (by decide) _).mono ?_
          rintro e x4 ⟨qe, rfl, hr, hb⟩
          have L := Aside0.mk (L.out.below hb)
          have HP := Aside0.mk (HP.out.below hb)
          have HQ := Aside0.mk hr
          clear hb hr
          go_wp2_with fail
          refine (show Calls _ _ #[cv pe exC, .agg #[.slice qe.A0 1 qe.c0, .slice qe.A1 1 qe.c1]] _ _ from traces_Cut pe exC qe (runT 1) _ HP.out exC_fits HQ.out).mono ?_
          rintro e x5 ⟨qz, rfl, hr, hb⟩
          rw [na9]
          have L := Aside0.mk (L.out.below hb)
          clear hb hr
          clear HP HQ
          have HS : Aside0 (RS (Kd.slice 4 Kd.bool) (((((x5.alloc (.cells #[.slice qz.A0 0 qz.c0, .slice qz.A1 0 qz.c1] 30)).alloc (.cells #[.bool false, .bool true, .bool true] 4)).alloc (.cells #[.bool false, .bool true, .bool false] 4)).alloc (.cells #[.bool false, .bool true, .bool false] 4)).alloc (.cells #[.slice (some ⟨x5.heap.size + 1, 0, none⟩) 3 3, .slice (some ⟨x5.heap.size + 1 + 1, 0, none⟩) 3 3, .slice (some ⟨x5.heap.size + 1 + 1 + 1, 0, none⟩) 3 3] 27)) (some ⟨x5.heap.size + 1 + 1 + 1 + 1, 0, none⟩) 3 naS) := by
            have b1 : ((x5.alloc (.cells #[.slice qz.A0 0 qz.c0, .slice qz.A1 0 qz.c1] 30)).alloc (.cells #[.bool false, .bool true, .bool true] 4)).heap[x5.heap.size + 1]? = some (.cells #[.bool false, .bool true, .bool true] 4 (0, 0)) := by simpa using blk_new (x5.alloc (.cells #[.slice qz.A0 0 qz.c0, .slice qz.A1 0 qz.c1] 30)) (.cells #[.bool false, .bool true, .bool true] 4)
            have b2 : (((x5.alloc (.cells #[.slice qz.A0 0 qz.c0, .slice qz.A1 0 qz.c1] 30)).alloc (.cells #[.bool false, .bool true, .bool true] 4)).alloc (.cells #[.bool false, .bool true, .bool false] 4)).heap[x5.heap.size + 1 + 1]? = some (.cells #[.bool false, .bool true, .bool false] 4 (0, 0)) := by simpa using blk_new ((x5.alloc (.cells #[.slice qz.A0 0 qz.c0, .slice qz.A1 0 qz.c1] 30)).alloc (.cells #[.bool false, .bool true, .bool true] 4)) (.cells #[.bool false, .bool true, .bool false] 4)
            have b3 : ((((x5.alloc (.cells #[.slice qz.A0 0 qz.c0, .slice qz.A1 0 qz.c1] 30)).alloc (.cells #[.bool false, .bool true, .bool true] 4)).alloc (.cells #[.bool false, .bool true, .bool false] 4)).alloc (.cells #[.bool false, .bool true, .bool false] 4)).heap[x5.heap.size + 1 + 1 + 1]? = some (.cells #[.bool false, .bool true, .bool false] 4 (0, 0)) := by simpa using blk_new (((x5.alloc (.cells #[.slice qz.A0 0 qz.c0, .slice qz.A1 0 qz.c1] 30)).alloc (.cells #[.bool false, .bool true, .bool true] 4)).alloc (.cells #[.bool false, .bool true, .bool false] 4)) (.cells #[.bool false, .bool true, .bool false] 4)
            have b4 : (((((x5.alloc (.cells #[.slice qz.A0 0 qz.c0, .slice qz.A1 0 qz.c1] 30)).alloc (.cells #[.bool false, .bool true, .bool true] 4)).alloc (.cells #[.bool false, .bool true, .bool false] 4)).alloc (.cells #[.bool false, .bool true, .bool false] 4)).alloc (.cells #[.slice (some ⟨x5.heap.size + 1, 0, none⟩) 3 3, .slice (some ⟨x5.heap.size + 1 + 1, 0, none⟩) 3 3, .slice (some ⟨x5.heap.size + 1 + 1 + 1, 0, none⟩) 3 3] 27)).heap[x5.heap.size + 1 + 1 + 1 + 1]? = some (.cells #[.slice (some ⟨x5.heap.size + 1, 0, none⟩) 3 3, .slice (some ⟨x5.heap.size + 1 + 1, 0, none⟩) 3 3, .slice (some ⟨x5.heap.size + 1 + 1 + 1, 0, none⟩) 3 3] 27 (0, 0)) := by simpa using blk_new ((((x5.alloc (.cells #[.slice qz.A0 0 qz.c0, .slice qz.A1 0 qz.c1] 30)).alloc (.cells #[.bool false, .bool true, .bool true] 4)).alloc (.cells #[.bool false, .bool true, .bool false] 4)).alloc (.cells #[.bool false, .bool true, .bool false] 4)) (.cells #[.slice (some ⟨x5.heap.size + 1, 0, none⟩) 3 3, .slice (some ⟨x5.heap.size + 1 + 1, 0, none⟩) 3 3, .slice (some ⟨x5.heap.size + 1 + 1 + 1, 0, none⟩) 3 3] 27)
            refine ⟨RS.lit_grid [(some ⟨x5.heap.size + 1, 0, none⟩, 3, [false, true, true]), (some ⟨x5.heap.size + 1 + 1, 0, none⟩, 3, [false, true, false]), (some ⟨x5.heap.size + 1 + 1 + 1, 0, none⟩, 3, [false, true, false])] (by simp) b4 (fun x hx => ?_)⟩
            simp only [List.mem_cons, List.not_mem_nil, or_false] at hx
            rcases hx with rfl | rfl | rfl
            · exact RS.lit_bools [false, true, true] (by decide) (blk_alloc (blk_alloc (blk_alloc b1 _) _) _)
            · exact RS.lit_bools [false, true, false] (by decide) (blk_alloc (blk_alloc b2 _) _)
            · exact RS.lit_bools [false, true, false] (by decide) (blk_alloc b3 _)
          have hb5 : Below x5.heap.size x5 (((((x5.alloc (.cells #[.slice qz.A0 0 qz.c0, .slice qz.A1 0 qz.c1] 30)).alloc (.cells #[.bool false, .bool true, .bool true] 4)).alloc (.cells #[.bool false, .bool true, .bool false] 4)).alloc (.cells #[.bool false, .bool true, .bool false] 4)).alloc (.cells #[.slice (some ⟨x5.heap.size + 1, 0, none⟩) 3 3, .slice (some ⟨x5.heap.size + 1 + 1, 0, none⟩) 3 3, .slice (some ⟨x5.heap.size + 1 + 1 + 1, 0, none⟩) 3 3] 27)) := below_alloc (below_alloc (below_alloc (below_alloc (below_alloc (Below.refl _ _) _) _) _) _) _
          have L := Aside0.mk (L.out.below hb5)
          clear hb5
          go_wp2_with fail
          refine (show Calls _ _ #[.slice SA naS.length sc, .slice (some ⟨x5.heap.size + 1 + 1 + 1 + 1, 0, none⟩) 3 3] _ _ from ref06_SameAll SA sc naS (some ⟨x5.heap.size + 1 + 1 + 1 + 1, 0, none⟩) 3 naS _ L.out.S HS.out).mono ?_
          rintro e x6 ⟨rfl, hb⟩
          rw [decide_eq_true (rfl : naS = naS)]
          have L := Aside0.mk (L.out.below hb)
          clear hb
          clear HS
          obtain ⟨k0, k1⟩ := (blk2t L.out.K).1
          go_wp2_with fail
          refine (law06_alive _).mono ?_
          rintro e x7 ⟨rfl, hb⟩
          have L := Aside0.mk (L.out.below hb)
          clear hb k0 k1
          go_wp2
          go_ret
          exact ⟨rfl, L.out.I.BW⟩
end Go.Proofs.Ytchhbkicplgmhaa.PH
