/- The flat functions of the kit at no slices at all: true. Written by gen_flat0.py. -/
import Derived.Test.YtnocbpagdoihmaaWApart
namespace Go.Proofs.Ytnocbpagdoihmaa
open Go.RowKit
attribute [local go_sem ↓] Go.wp_at_zero Go.wp_at_succ

theorem infoflatInts : (Try.prog.info? 114).map (fun i => (i.zero, i.size, i.bytes)) = some (some (.slice none 0 0), 1, 24) := by kernel_rfl
theorem undflatInts : Try.prog.underlying 75 = some (.slice 114) := by kernel_rfl
set_option maxRecDepth 100000 in
theorem flatInts_no (w : World) : Calls Try.prog 49 #[.slice none 0 0] w fun e w' => e = .returned (.bool true) ∧ Below w.heap.size w w' := by
  obtain ⟨j0, hj, hy0, hy1, hy2⟩ := info_parts infoflatInts
  go_enter Try.func49, Try.ntmps49
  go_wp2_with fail
  go_loopw [3] (fun i wr => i = .int .i64 0 ∧ Below w.heap.size w wr) (fun _ _ => 0)
  case atStart => exact ⟨rfl, Below.refl _ _⟩
  case round =>
    obtain ⟨rfl, HB⟩ := hrel
    go_wp2_with (at_make; refine wpList_make_full _ rfl _ _ _ rfl w.heap.size 114 j0 (.slice none 0 0) 1 undflatInts hj hy0 hy1 .i64 .i64 _ _ 0 rfl rfl rfl rfl (by omega) (by simp only [maxLen]; omega) HB.size ?_; intro w2 hown2 hg2)
    have HB2 : Below w.heap.size w w2 := HB.grown hg2 HB.size (by simp)
    clear hown2 hg2 HB
    clear hy0 hy1 hy2 hj
    go_loopw [6] (fun i wx => i = .int .i64 0 ∧ Below w.heap.size w wx) (fun _ _ => 0)
    case atStart => exact ⟨rfl, HB2⟩
    case round =>
      clear HB2
      obtain ⟨rfl, HB2⟩ := hrel
      go_wp2_with fail
      go_loopw [9] (fun i wx => i = .int .i64 0 ∧ Below w.heap.size w wx) (fun _ _ => 0)
      case atStart => exact ⟨rfl, HB2⟩
      case round =>
        clear HB2
        obtain ⟨rfl, HB2⟩ := hrel
        go_wp2_with fail
        go_loopw [11] (fun i wx => i = .int .i64 0 ∧ Below w.heap.size w wx) (fun _ _ => 0)
        case atStart => exact ⟨rfl, HB2⟩
        case round =>
          clear HB2
          obtain ⟨rfl, HB2⟩ := hrel
          go_wp2_with fail
          go_loopw [14] (fun i wx => i = .int .i64 0 ∧ Below w.heap.size w wx) (fun _ _ => 0)
          case atStart => exact ⟨rfl, HB2⟩
          case round =>
            clear HB2
            obtain ⟨rfl, HB2⟩ := hrel
            go_wp2_with fail
            go_ret
            exact ⟨rfl, HB2⟩

theorem infoflatTexts : (Try.prog.info? 115).map (fun i => (i.zero, i.size, i.bytes)) = some (some (.slice none 0 0), 1, 24) := by kernel_rfl
theorem undflatTexts : Try.prog.underlying 76 = some (.slice 115) := by kernel_rfl
set_option maxRecDepth 100000 in
theorem flatTexts_no (w : World) : Calls Try.prog 50 #[.slice none 0 0] w fun e w' => e = .returned (.bool true) ∧ Below w.heap.size w w' := by
  obtain ⟨j0, hj, hy0, hy1, hy2⟩ := info_parts infoflatTexts
  go_enter Try.func50, Try.ntmps50
  go_wp2_with fail
  go_loopw [3] (fun i wr => i = .int .i64 0 ∧ Below w.heap.size w wr) (fun _ _ => 0)
  case atStart => exact ⟨rfl, Below.refl _ _⟩
  case round =>
    obtain ⟨rfl, HB⟩ := hrel
    go_wp2_with (at_make; refine wpList_make_full _ rfl _ _ _ rfl w.heap.size 115 j0 (.slice none 0 0) 1 undflatTexts hj hy0 hy1 .i64 .i64 _ _ 0 rfl rfl rfl rfl (by omega) (by simp only [maxLen]; omega) HB.size ?_; intro w2 hown2 hg2)
    have HB2 : Below w.heap.size w w2 := HB.grown hg2 HB.size (by simp)
    clear hown2 hg2 HB
    clear hy0 hy1 hy2 hj
    go_loopw [6] (fun i wx => i = .int .i64 0 ∧ Below w.heap.size w wx) (fun _ _ => 0)
    case atStart => exact ⟨rfl, HB2⟩
    case round =>
      clear HB2
      obtain ⟨rfl, HB2⟩ := hrel
      go_wp2_with fail
      go_loopw [9] (fun i wx => i = .int .i64 0 ∧ Below w.heap.size w wx) (fun _ _ => 0)
      case atStart => exact ⟨rfl, HB2⟩
      case round =>
        clear HB2
        obtain ⟨rfl, HB2⟩ := hrel
        go_wp2_with fail
        go_loopw [11] (fun i wx => i = .int .i64 0 ∧ Below w.heap.size w wx) (fun _ _ => 0)
        case atStart => exact ⟨rfl, HB2⟩
        case round =>
          clear HB2
          obtain ⟨rfl, HB2⟩ := hrel
          go_wp2_with fail
          go_loopw [14] (fun i wx => i = .int .i64 0 ∧ Below w.heap.size w wx) (fun _ _ => 0)
          case atStart => exact ⟨rfl, HB2⟩
          case round =>
            clear HB2
            obtain ⟨rfl, HB2⟩ := hrel
            go_wp2_with fail
            go_ret
            exact ⟨rfl, HB2⟩

theorem infoflatWords : (Try.prog.info? 117).map (fun i => (i.zero, i.size, i.bytes)) = some (some (.slice none 0 0), 1, 24) := by kernel_rfl
theorem undflatWords : Try.prog.underlying 77 = some (.slice 117) := by kernel_rfl
set_option maxRecDepth 100000 in
theorem flatWords_no (w : World) : Calls Try.prog 52 #[.slice none 0 0] w fun e w' => e = .returned (.bool true) ∧ Below w.heap.size w w' := by
  obtain ⟨j0, hj, hy0, hy1, hy2⟩ := info_parts infoflatWords
  go_enter Try.func52, Try.ntmps52
  go_wp2_with fail
  go_loopw [3] (fun i wr => i = .int .i64 0 ∧ Below w.heap.size w wr) (fun _ _ => 0)
  case atStart => exact ⟨rfl, Below.refl _ _⟩
  case round =>
    obtain ⟨rfl, HB⟩ := hrel
    go_wp2_with (at_make; refine wpList_make_full _ rfl _ _ _ rfl w.heap.size 117 j0 (.slice none 0 0) 1 undflatWords hj hy0 hy1 .i64 .i64 _ _ 0 rfl rfl rfl rfl (by omega) (by simp only [maxLen]; omega) HB.size ?_; intro w2 hown2 hg2)
    have HB2 : Below w.heap.size w w2 := HB.grown hg2 HB.size (by simp)
    clear hown2 hg2 HB
    clear hy0 hy1 hy2 hj
    go_loopw [6] (fun i wx => i = .int .i64 0 ∧ Below w.heap.size w wx) (fun _ _ => 0)
    case atStart => exact ⟨rfl, HB2⟩
    case round =>
      clear HB2
      obtain ⟨rfl, HB2⟩ := hrel
      go_wp2_with fail
      go_loopw [9] (fun i wx => i = .int .i64 0 ∧ Below w.heap.size w wx) (fun _ _ => 0)
      case atStart => exact ⟨rfl, HB2⟩
      case round =>
        clear HB2
        obtain ⟨rfl, HB2⟩ := hrel
        go_wp2_with fail
        go_loopw [11] (fun i wx => i = .int .i64 0 ∧ Below w.heap.size w wx) (fun _ _ => 0)
        case atStart => exact ⟨rfl, HB2⟩
        case round =>
          clear HB2
          obtain ⟨rfl, HB2⟩ := hrel
          go_wp2_with fail
          go_loopw [14] (fun i wx => i = .int .i64 0 ∧ Below w.heap.size w wx) (fun _ _ => 0)
          case atStart => exact ⟨rfl, HB2⟩
          case round =>
            clear HB2
            obtain ⟨rfl, HB2⟩ := hrel
            go_wp2_with fail
            go_ret
            exact ⟨rfl, HB2⟩

theorem infoflatKeys : (Try.prog.info? 119).map (fun i => (i.zero, i.size, i.bytes)) = some (some (.slice none 0 0), 1, 24) := by kernel_rfl
theorem undflatKeys : Try.prog.underlying 78 = some (.slice 119) := by kernel_rfl
set_option maxRecDepth 100000 in
theorem flatKeys_no (w : World) : Calls Try.prog 53 #[.slice none 0 0] w fun e w' => e = .returned (.bool true) ∧ Below w.heap.size w w' := by
  obtain ⟨j0, hj, hy0, hy1, hy2⟩ := info_parts infoflatKeys
  go_enter Try.func53, Try.ntmps53
  go_wp2_with fail
  go_loopw [3] (fun i wr => i = .int .i64 0 ∧ Below w.heap.size w wr) (fun _ _ => 0)
  case atStart => exact ⟨rfl, Below.refl _ _⟩
  case round =>
    obtain ⟨rfl, HB⟩ := hrel
    go_wp2_with (at_make; refine wpList_make_full _ rfl _ _ _ rfl w.heap.size 119 j0 (.slice none 0 0) 1 undflatKeys hj hy0 hy1 .i64 .i64 _ _ 0 rfl rfl rfl rfl (by omega) (by simp only [maxLen]; omega) HB.size ?_; intro w2 hown2 hg2)
    have HB2 : Below w.heap.size w w2 := HB.grown hg2 HB.size (by simp)
    clear hown2 hg2 HB
    clear hy0 hy1 hy2 hj
    go_loopw [6] (fun i wx => i = .int .i64 0 ∧ Below w.heap.size w wx) (fun _ _ => 0)
    case atStart => exact ⟨rfl, HB2⟩
    case round =>
      clear HB2
      obtain ⟨rfl, HB2⟩ := hrel
      go_wp2_with fail
      go_loopw [9] (fun i wx => i = .int .i64 0 ∧ Below w.heap.size w wx) (fun _ _ => 0)
      case atStart => exact ⟨rfl, HB2⟩
      case round =>
        clear HB2
        obtain ⟨rfl, HB2⟩ := hrel
        go_wp2_with fail
        go_loopw [11] (fun i wx => i = .int .i64 0 ∧ Below w.heap.size w wx) (fun _ _ => 0)
        case atStart => exact ⟨rfl, HB2⟩
        case round =>
          clear HB2
          obtain ⟨rfl, HB2⟩ := hrel
          go_wp2_with fail
          go_loopw [14] (fun i wx => i = .int .i64 0 ∧ Below w.heap.size w wx) (fun _ _ => 0)
          case atStart => exact ⟨rfl, HB2⟩
          case round =>
            clear HB2
            obtain ⟨rfl, HB2⟩ := hrel
            go_wp2_with fail
            go_ret
            exact ⟨rfl, HB2⟩

theorem infoflatFactsLists : (Try.prog.info? 123).map (fun i => (i.zero, i.size, i.bytes)) = some (some (.slice none 0 0), 1, 24) := by kernel_rfl
theorem undflatFactsLists : Try.prog.underlying 79 = some (.slice 123) := by kernel_rfl
set_option maxRecDepth 100000 in
theorem flatFactsLists_no (w : World) : Calls Try.prog 54 #[.slice none 0 0] w fun e w' => e = .returned (.bool true) ∧ Below w.heap.size w w' := by
  obtain ⟨j0, hj, hy0, hy1, hy2⟩ := info_parts infoflatFactsLists
  go_enter Try.func54, Try.ntmps54
  go_wp2_with fail
  go_loopw [3] (fun i wr => i = .int .i64 0 ∧ Below w.heap.size w wr) (fun _ _ => 0)
  case atStart => exact ⟨rfl, Below.refl _ _⟩
  case round =>
    obtain ⟨rfl, HB⟩ := hrel
    go_wp2_with (at_make; refine wpList_make_full _ rfl _ _ _ rfl w.heap.size 123 j0 (.slice none 0 0) 1 undflatFactsLists hj hy0 hy1 .i64 .i64 _ _ 0 rfl rfl rfl rfl (by omega) (by simp only [maxLen]; omega) HB.size ?_; intro w2 hown2 hg2)
    have HB2 : Below w.heap.size w w2 := HB.grown hg2 HB.size (by simp)
    clear hown2 hg2 HB
    clear hy0 hy1 hy2 hj
    go_loopw [6] (fun i wx => i = .int .i64 0 ∧ Below w.heap.size w wx) (fun _ _ => 0)
    case atStart => exact ⟨rfl, HB2⟩
    case round =>
      clear HB2
      obtain ⟨rfl, HB2⟩ := hrel
      go_wp2_with fail
      go_loopw [9] (fun i wx => i = .int .i64 0 ∧ Below w.heap.size w wx) (fun _ _ => 0)
      case atStart => exact ⟨rfl, HB2⟩
      case round =>
        clear HB2
        obtain ⟨rfl, HB2⟩ := hrel
        go_wp2_with fail
        go_loopw [11] (fun i wx => i = .int .i64 0 ∧ Below w.heap.size w wx) (fun _ _ => 0)
        case atStart => exact ⟨rfl, HB2⟩
        case round =>
          clear HB2
          obtain ⟨rfl, HB2⟩ := hrel
          go_wp2_with fail
          go_loopw [14] (fun i wx => i = .int .i64 0 ∧ Below w.heap.size w wx) (fun _ _ => 0)
          case atStart => exact ⟨rfl, HB2⟩
          case round =>
            clear HB2
            obtain ⟨rfl, HB2⟩ := hrel
            go_wp2_with fail
            go_ret
            exact ⟨rfl, HB2⟩

theorem infoflatPrefixes : (Try.prog.info? 127).map (fun i => (i.zero, i.size, i.bytes)) = some (some (.slice none 0 0), 1, 24) := by kernel_rfl
theorem undflatPrefixes : Try.prog.underlying 80 = some (.slice 127) := by kernel_rfl
set_option maxRecDepth 100000 in
theorem flatPrefixes_no (w : World) : Calls Try.prog 55 #[.slice none 0 0] w fun e w' => e = .returned (.bool true) ∧ Below w.heap.size w w' := by
  obtain ⟨j0, hj, hy0, hy1, hy2⟩ := info_parts infoflatPrefixes
  go_enter Try.func55, Try.ntmps55
  go_wp2_with fail
  go_loopw [3] (fun i wr => i = .int .i64 0 ∧ Below w.heap.size w wr) (fun _ _ => 0)
  case atStart => exact ⟨rfl, Below.refl _ _⟩
  case round =>
    obtain ⟨rfl, HB⟩ := hrel
    go_wp2_with (at_make; refine wpList_make_full _ rfl _ _ _ rfl w.heap.size 127 j0 (.slice none 0 0) 1 undflatPrefixes hj hy0 hy1 .i64 .i64 _ _ 0 rfl rfl rfl rfl (by omega) (by simp only [maxLen]; omega) HB.size ?_; intro w2 hown2 hg2)
    have HB2 : Below w.heap.size w w2 := HB.grown hg2 HB.size (by simp)
    clear hown2 hg2 HB
    clear hy0 hy1 hy2 hj
    go_loopw [6] (fun i wx => i = .int .i64 0 ∧ Below w.heap.size w wx) (fun _ _ => 0)
    case atStart => exact ⟨rfl, HB2⟩
    case round =>
      clear HB2
      obtain ⟨rfl, HB2⟩ := hrel
      go_wp2_with fail
      go_loopw [9] (fun i wx => i = .int .i64 0 ∧ Below w.heap.size w wx) (fun _ _ => 0)
      case atStart => exact ⟨rfl, HB2⟩
      case round =>
        clear HB2
        obtain ⟨rfl, HB2⟩ := hrel
        go_wp2_with fail
        go_loopw [11] (fun i wx => i = .int .i64 0 ∧ Below w.heap.size w wx) (fun _ _ => 0)
        case atStart => exact ⟨rfl, HB2⟩
        case round =>
          clear HB2
          obtain ⟨rfl, HB2⟩ := hrel
          go_wp2_with fail
          go_loopw [14] (fun i wx => i = .int .i64 0 ∧ Below w.heap.size w wx) (fun _ _ => 0)
          case atStart => exact ⟨rfl, HB2⟩
          case round =>
            clear HB2
            obtain ⟨rfl, HB2⟩ := hrel
            go_wp2_with fail
            go_ret
            exact ⟨rfl, HB2⟩

theorem infoflatRanges : (Try.prog.info? 131).map (fun i => (i.zero, i.size, i.bytes)) = some (some (.slice none 0 0), 1, 24) := by kernel_rfl
theorem undflatRanges : Try.prog.underlying 81 = some (.slice 131) := by kernel_rfl
set_option maxRecDepth 100000 in
theorem flatRanges_no (w : World) : Calls Try.prog 56 #[.slice none 0 0] w fun e w' => e = .returned (.bool true) ∧ Below w.heap.size w w' := by
  obtain ⟨j0, hj, hy0, hy1, hy2⟩ := info_parts infoflatRanges
  go_enter Try.func56, Try.ntmps56
  go_wp2_with fail
  go_loopw [3] (fun i wr => i = .int .i64 0 ∧ Below w.heap.size w wr) (fun _ _ => 0)
  case atStart => exact ⟨rfl, Below.refl _ _⟩
  case round =>
    obtain ⟨rfl, HB⟩ := hrel
    go_wp2_with (at_make; refine wpList_make_full _ rfl _ _ _ rfl w.heap.size 131 j0 (.slice none 0 0) 1 undflatRanges hj hy0 hy1 .i64 .i64 _ _ 0 rfl rfl rfl rfl (by omega) (by simp only [maxLen]; omega) HB.size ?_; intro w2 hown2 hg2)
    have HB2 : Below w.heap.size w w2 := HB.grown hg2 HB.size (by simp)
    clear hown2 hg2 HB
    clear hy0 hy1 hy2 hj
    go_loopw [6] (fun i wx => i = .int .i64 0 ∧ Below w.heap.size w wx) (fun _ _ => 0)
    case atStart => exact ⟨rfl, HB2⟩
    case round =>
      clear HB2
      obtain ⟨rfl, HB2⟩ := hrel
      go_wp2_with fail
      go_loopw [9] (fun i wx => i = .int .i64 0 ∧ Below w.heap.size w wx) (fun _ _ => 0)
      case atStart => exact ⟨rfl, HB2⟩
      case round =>
        clear HB2
        obtain ⟨rfl, HB2⟩ := hrel
        go_wp2_with fail
        go_loopw [11] (fun i wx => i = .int .i64 0 ∧ Below w.heap.size w wx) (fun _ _ => 0)
        case atStart => exact ⟨rfl, HB2⟩
        case round =>
          clear HB2
          obtain ⟨rfl, HB2⟩ := hrel
          go_wp2_with fail
          go_loopw [14] (fun i wx => i = .int .i64 0 ∧ Below w.heap.size w wx) (fun _ _ => 0)
          case atStart => exact ⟨rfl, HB2⟩
          case round =>
            clear HB2
            obtain ⟨rfl, HB2⟩ := hrel
            go_wp2_with fail
            go_ret
            exact ⟨rfl, HB2⟩

theorem infoflatRules : (Try.prog.info? 135).map (fun i => (i.zero, i.size, i.bytes)) = some (some (.slice none 0 0), 1, 24) := by kernel_rfl
theorem undflatRules : Try.prog.underlying 82 = some (.slice 135) := by kernel_rfl
set_option maxRecDepth 100000 in
theorem flatRules_no (w : World) : Calls Try.prog 57 #[.slice none 0 0] w fun e w' => e = .returned (.bool true) ∧ Below w.heap.size w w' := by
  obtain ⟨j0, hj, hy0, hy1, hy2⟩ := info_parts infoflatRules
  go_enter Try.func57, Try.ntmps57
  go_wp2_with fail
  go_loopw [3] (fun i wr => i = .int .i64 0 ∧ Below w.heap.size w wr) (fun _ _ => 0)
  case atStart => exact ⟨rfl, Below.refl _ _⟩
  case round =>
    obtain ⟨rfl, HB⟩ := hrel
    go_wp2_with (at_make; refine wpList_make_full _ rfl _ _ _ rfl w.heap.size 135 j0 (.slice none 0 0) 1 undflatRules hj hy0 hy1 .i64 .i64 _ _ 0 rfl rfl rfl rfl (by omega) (by simp only [maxLen]; omega) HB.size ?_; intro w2 hown2 hg2)
    have HB2 : Below w.heap.size w w2 := HB.grown hg2 HB.size (by simp)
    clear hown2 hg2 HB
    clear hy0 hy1 hy2 hj
    go_loopw [6] (fun i wx => i = .int .i64 0 ∧ Below w.heap.size w wx) (fun _ _ => 0)
    case atStart => exact ⟨rfl, HB2⟩
    case round =>
      clear HB2
      obtain ⟨rfl, HB2⟩ := hrel
      go_wp2_with fail
      go_loopw [9] (fun i wx => i = .int .i64 0 ∧ Below w.heap.size w wx) (fun _ _ => 0)
      case atStart => exact ⟨rfl, HB2⟩
      case round =>
        clear HB2
        obtain ⟨rfl, HB2⟩ := hrel
        go_wp2_with fail
        go_loopw [11] (fun i wx => i = .int .i64 0 ∧ Below w.heap.size w wx) (fun _ _ => 0)
        case atStart => exact ⟨rfl, HB2⟩
        case round =>
          clear HB2
          obtain ⟨rfl, HB2⟩ := hrel
          go_wp2_with fail
          go_loopw [14] (fun i wx => i = .int .i64 0 ∧ Below w.heap.size w wx) (fun _ _ => 0)
          case atStart => exact ⟨rfl, HB2⟩
          case round =>
            clear HB2
            obtain ⟨rfl, HB2⟩ := hrel
            go_wp2_with fail
            go_ret
            exact ⟨rfl, HB2⟩

theorem infoflatIntLists : (Try.prog.info? 75).map (fun i => (i.zero, i.size, i.bytes)) = some (some (.slice none 0 0), 1, 24) := by kernel_rfl
theorem undflatIntLists : Try.prog.underlying 83 = some (.slice 75) := by kernel_rfl
set_option maxRecDepth 100000 in
theorem flatIntLists_no (w : World) : Calls Try.prog 58 #[.slice none 0 0] w fun e w' => e = .returned (.bool true) ∧ Below w.heap.size w w' := by
  obtain ⟨j0, hj, hy0, hy1, hy2⟩ := info_parts infoflatIntLists
  go_enter Try.func58, Try.ntmps58
  go_wp2_with fail
  go_loopw [3] (fun i wr => i = .int .i64 0 ∧ Below w.heap.size w wr) (fun _ _ => 0)
  case atStart => exact ⟨rfl, Below.refl _ _⟩
  case round =>
    obtain ⟨rfl, HB⟩ := hrel
    go_wp2_with (at_make; refine wpList_make_full _ rfl _ _ _ rfl w.heap.size 75 j0 (.slice none 0 0) 1 undflatIntLists hj hy0 hy1 .i64 .i64 _ _ 0 rfl rfl rfl rfl (by omega) (by simp only [maxLen]; omega) HB.size ?_; intro w2 hown2 hg2)
    have HB2 : Below w.heap.size w w2 := HB.grown hg2 HB.size (by simp)
    clear hown2 hg2 HB
    clear hy0 hy1 hy2 hj
    go_loopw [6] (fun i wx => i = .int .i64 0 ∧ Below w.heap.size w wx) (fun _ _ => 0)
    case atStart => exact ⟨rfl, HB2⟩
    case round =>
      clear HB2
      obtain ⟨rfl, HB2⟩ := hrel
      go_wp2_with fail
      go_loopw [9] (fun i wx => i = .int .i64 0 ∧ Below w.heap.size w wx) (fun _ _ => 0)
      case atStart => exact ⟨rfl, HB2⟩
      case round =>
        clear HB2
        obtain ⟨rfl, HB2⟩ := hrel
        go_wp2_with fail
        go_loopw [11] (fun i wx => i = .int .i64 0 ∧ Below w.heap.size w wx) (fun _ _ => 0)
        case atStart => exact ⟨rfl, HB2⟩
        case round =>
          clear HB2
          obtain ⟨rfl, HB2⟩ := hrel
          go_wp2_with fail
          go_loopw [14] (fun i wx => i = .int .i64 0 ∧ Below w.heap.size w wx) (fun _ _ => 0)
          case atStart => exact ⟨rfl, HB2⟩
          case round =>
            clear HB2
            obtain ⟨rfl, HB2⟩ := hrel
            go_wp2_with fail
            go_ret
            exact ⟨rfl, HB2⟩

theorem infoflatTextLists : (Try.prog.info? 76).map (fun i => (i.zero, i.size, i.bytes)) = some (some (.slice none 0 0), 1, 24) := by kernel_rfl
theorem undflatTextLists : Try.prog.underlying 84 = some (.slice 76) := by kernel_rfl
set_option maxRecDepth 100000 in
theorem flatTextLists_no (w : World) : Calls Try.prog 59 #[.slice none 0 0] w fun e w' => e = .returned (.bool true) ∧ Below w.heap.size w w' := by
  obtain ⟨j0, hj, hy0, hy1, hy2⟩ := info_parts infoflatTextLists
  go_enter Try.func59, Try.ntmps59
  go_wp2_with fail
  go_loopw [3] (fun i wr => i = .int .i64 0 ∧ Below w.heap.size w wr) (fun _ _ => 0)
  case atStart => exact ⟨rfl, Below.refl _ _⟩
  case round =>
    obtain ⟨rfl, HB⟩ := hrel
    go_wp2_with (at_make; refine wpList_make_full _ rfl _ _ _ rfl w.heap.size 76 j0 (.slice none 0 0) 1 undflatTextLists hj hy0 hy1 .i64 .i64 _ _ 0 rfl rfl rfl rfl (by omega) (by simp only [maxLen]; omega) HB.size ?_; intro w2 hown2 hg2)
    have HB2 : Below w.heap.size w w2 := HB.grown hg2 HB.size (by simp)
    clear hown2 hg2 HB
    clear hy0 hy1 hy2 hj
    go_loopw [6] (fun i wx => i = .int .i64 0 ∧ Below w.heap.size w wx) (fun _ _ => 0)
    case atStart => exact ⟨rfl, HB2⟩
    case round =>
      clear HB2
      obtain ⟨rfl, HB2⟩ := hrel
      go_wp2_with fail
      go_loopw [9] (fun i wx => i = .int .i64 0 ∧ Below w.heap.size w wx) (fun _ _ => 0)
      case atStart => exact ⟨rfl, HB2⟩
      case round =>
        clear HB2
        obtain ⟨rfl, HB2⟩ := hrel
        go_wp2_with fail
        go_loopw [11] (fun i wx => i = .int .i64 0 ∧ Below w.heap.size w wx) (fun _ _ => 0)
        case atStart => exact ⟨rfl, HB2⟩
        case round =>
          clear HB2
          obtain ⟨rfl, HB2⟩ := hrel
          go_wp2_with fail
          go_loopw [14] (fun i wx => i = .int .i64 0 ∧ Below w.heap.size w wx) (fun _ _ => 0)
          case atStart => exact ⟨rfl, HB2⟩
          case round =>
            clear HB2
            obtain ⟨rfl, HB2⟩ := hrel
            go_wp2_with fail
            go_ret
            exact ⟨rfl, HB2⟩

theorem infoflatByteLists : (Try.prog.info? 58).map (fun i => (i.zero, i.size, i.bytes)) = some (some (.slice none 0 0), 1, 24) := by kernel_rfl
theorem undflatByteLists : Try.prog.underlying 85 = some (.slice 58) := by kernel_rfl
set_option maxRecDepth 100000 in
theorem flatByteLists_no (w : World) : Calls Try.prog 60 #[.slice none 0 0] w fun e w' => e = .returned (.bool true) ∧ Below w.heap.size w w' := by
  obtain ⟨j0, hj, hy0, hy1, hy2⟩ := info_parts infoflatByteLists
  go_enter Try.func60, Try.ntmps60
  go_wp2_with fail
  go_loopw [3] (fun i wr => i = .int .i64 0 ∧ Below w.heap.size w wr) (fun _ _ => 0)
  case atStart => exact ⟨rfl, Below.refl _ _⟩
  case round =>
    obtain ⟨rfl, HB⟩ := hrel
    go_wp2_with (at_make; refine wpList_make_full _ rfl _ _ _ rfl w.heap.size 58 j0 (.slice none 0 0) 1 undflatByteLists hj hy0 hy1 .i64 .i64 _ _ 0 rfl rfl rfl rfl (by omega) (by simp only [maxLen]; omega) HB.size ?_; intro w2 hown2 hg2)
    have HB2 : Below w.heap.size w w2 := HB.grown hg2 HB.size (by simp)
    clear hown2 hg2 HB
    clear hy0 hy1 hy2 hj
    go_loopw [6] (fun i wx => i = .int .i64 0 ∧ Below w.heap.size w wx) (fun _ _ => 0)
    case atStart => exact ⟨rfl, HB2⟩
    case round =>
      clear HB2
      obtain ⟨rfl, HB2⟩ := hrel
      go_wp2_with fail
      go_loopw [9] (fun i wx => i = .int .i64 0 ∧ Below w.heap.size w wx) (fun _ _ => 0)
      case atStart => exact ⟨rfl, HB2⟩
      case round =>
        clear HB2
        obtain ⟨rfl, HB2⟩ := hrel
        go_wp2_with fail
        go_loopw [11] (fun i wx => i = .int .i64 0 ∧ Below w.heap.size w wx) (fun _ _ => 0)
        case atStart => exact ⟨rfl, HB2⟩
        case round =>
          clear HB2
          obtain ⟨rfl, HB2⟩ := hrel
          go_wp2_with fail
          go_loopw [14] (fun i wx => i = .int .i64 0 ∧ Below w.heap.size w wx) (fun _ _ => 0)
          case atStart => exact ⟨rfl, HB2⟩
          case round =>
            clear HB2
            obtain ⟨rfl, HB2⟩ := hrel
            go_wp2_with fail
            go_ret
            exact ⟨rfl, HB2⟩

theorem infoflatRuleLists : (Try.prog.info? 82).map (fun i => (i.zero, i.size, i.bytes)) = some (some (.slice none 0 0), 1, 24) := by kernel_rfl
theorem undflatRuleLists : Try.prog.underlying 86 = some (.slice 82) := by kernel_rfl
set_option maxRecDepth 100000 in
theorem flatRuleLists_no (w : World) : Calls Try.prog 61 #[.slice none 0 0] w fun e w' => e = .returned (.bool true) ∧ Below w.heap.size w w' := by
  obtain ⟨j0, hj, hy0, hy1, hy2⟩ := info_parts infoflatRuleLists
  go_enter Try.func61, Try.ntmps61
  go_wp2_with fail
  go_loopw [3] (fun i wr => i = .int .i64 0 ∧ Below w.heap.size w wr) (fun _ _ => 0)
  case atStart => exact ⟨rfl, Below.refl _ _⟩
  case round =>
    obtain ⟨rfl, HB⟩ := hrel
    go_wp2_with (at_make; refine wpList_make_full _ rfl _ _ _ rfl w.heap.size 82 j0 (.slice none 0 0) 1 undflatRuleLists hj hy0 hy1 .i64 .i64 _ _ 0 rfl rfl rfl rfl (by omega) (by simp only [maxLen]; omega) HB.size ?_; intro w2 hown2 hg2)
    have HB2 : Below w.heap.size w w2 := HB.grown hg2 HB.size (by simp)
    clear hown2 hg2 HB
    clear hy0 hy1 hy2 hj
    go_loopw [6] (fun i wx => i = .int .i64 0 ∧ Below w.heap.size w wx) (fun _ _ => 0)
    case atStart => exact ⟨rfl, HB2⟩
    case round =>
      clear HB2
      obtain ⟨rfl, HB2⟩ := hrel
      go_wp2_with fail
      go_loopw [9] (fun i wx => i = .int .i64 0 ∧ Below w.heap.size w wx) (fun _ _ => 0)
      case atStart => exact ⟨rfl, HB2⟩
      case round =>
        clear HB2
        obtain ⟨rfl, HB2⟩ := hrel
        go_wp2_with fail
        go_loopw [11] (fun i wx => i = .int .i64 0 ∧ Below w.heap.size w wx) (fun _ _ => 0)
        case atStart => exact ⟨rfl, HB2⟩
        case round =>
          clear HB2
          obtain ⟨rfl, HB2⟩ := hrel
          go_wp2_with fail
          go_loopw [14] (fun i wx => i = .int .i64 0 ∧ Below w.heap.size w wx) (fun _ _ => 0)
          case atStart => exact ⟨rfl, HB2⟩
          case round =>
            clear HB2
            obtain ⟨rfl, HB2⟩ := hrel
            go_wp2_with fail
            go_ret
            exact ⟨rfl, HB2⟩
end Go.Proofs.Ytnocbpagdoihmaa
