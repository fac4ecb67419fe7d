/- The flat functions of the kit at no slices at all: true. Written by gen_flat0.py. -/
import Derived.Test.YtpfmecdldoehoaaWApart
namespace Go.Proofs.Ytpfmecdldoehoaa
open Go.RowKit
attribute [local go_sem ↓] Go.wp_at_zero Go.wp_at_succ

theorem infoflatInts : (Try.prog.info? 51).map (fun i => (i.zero, i.size, i.bytes)) = some (some (.slice none 0 0), 1, 24) := by kernel_rfl
theorem undflatInts : Try.prog.underlying 78 = some (.slice 51) := by kernel_rfl
set_option maxRecDepth 100000 in
theorem flatInts_no (w : World) : Calls Try.prog 62 #[.slice none 0 0] w fun e w' => e = .returned (.bool true) ∧ Below w.heap.size w w' := by
  obtain ⟨j0, hj, hy0, hy1, hy2⟩ := info_parts infoflatInts
  go_enter Try.func62, Try.ntmps62
  go_wp2_with fail
  go_loopw [3] (fun i wr => i = .int .i64 0 ∧ Below w.heap.size w wr) (fun _ _ => 0)
  case atStart => exact ⟨rfl, Below.refl _ _⟩
  case round =>
    obtain ⟨rfl, HB⟩ := hrel
    go_wp2_with (at_make; refine wpList_make_full _ rfl _ _ _ rfl w.heap.size 51 j0 (.slice none 0 0) 1 undflatInts hj hy0 hy1 .i64 .i64 _ _ 0 rfl rfl rfl rfl (by omega) (by simp only [maxLen]; omega) HB.size ?_; intro w2 hown2 hg2)
    have HB2 : Below w.heap.size w w2 := HB.grown hg2 HB.size (by simp)
    clear hown2 hg2 HB
    clear hy0 hy1 hy2 hj
    go_loopw [6] (fun i wx => i = .int .i64 0 ∧ Below w.heap.size w wx) (fun _ _ => 0)
    case atStart => exact ⟨rfl, HB2⟩
    case round =>
      clear HB2
      obtain ⟨rfl, HB2⟩ := hrel
      go_wp2_with fail
      go_loopw [9] (fun i wx => i = .int .i64 0 ∧ Below w.heap.size w wx) (fun _ _ => 0)
      case atStart => exact ⟨rfl, HB2⟩
      case round =>
        clear HB2
        obtain ⟨rfl, HB2⟩ := hrel
        go_wp2_with fail
        go_loopw [11] (fun i wx => i = .int .i64 0 ∧ Below w.heap.size w wx) (fun _ _ => 0)
        case atStart => exact ⟨rfl, HB2⟩
        case round =>
          clear HB2
          obtain ⟨rfl, HB2⟩ := hrel
          go_wp2_with fail
          go_loopw [14] (fun i wx => i = .int .i64 0 ∧ Below w.heap.size w wx) (fun _ _ => 0)
          case atStart => exact ⟨rfl, HB2⟩
          case round =>
            clear HB2
            obtain ⟨rfl, HB2⟩ := hrel
            go_wp2_with fail
            go_ret
            exact ⟨rfl, HB2⟩

theorem infoflatTexts : (Try.prog.info? 112).map (fun i => (i.zero, i.size, i.bytes)) = some (some (.slice none 0 0), 1, 24) := by kernel_rfl
theorem undflatTexts : Try.prog.underlying 79 = some (.slice 112) := by kernel_rfl
set_option maxRecDepth 100000 in
theorem flatTexts_no (w : World) : Calls Try.prog 63 #[.slice none 0 0] w fun e w' => e = .returned (.bool true) ∧ Below w.heap.size w w' := by
  obtain ⟨j0, hj, hy0, hy1, hy2⟩ := info_parts infoflatTexts
  go_enter Try.func63, Try.ntmps63
  go_wp2_with fail
  go_loopw [3] (fun i wr => i = .int .i64 0 ∧ Below w.heap.size w wr) (fun _ _ => 0)
  case atStart => exact ⟨rfl, Below.refl _ _⟩
  case round =>
    obtain ⟨rfl, HB⟩ := hrel
    go_wp2_with (at_make; refine wpList_make_full _ rfl _ _ _ rfl w.heap.size 112 j0 (.slice none 0 0) 1 undflatTexts hj hy0 hy1 .i64 .i64 _ _ 0 rfl rfl rfl rfl (by omega) (by simp only [maxLen]; omega) HB.size ?_; intro w2 hown2 hg2)
    have HB2 : Below w.heap.size w w2 := HB.grown hg2 HB.size (by simp)
    clear hown2 hg2 HB
    clear hy0 hy1 hy2 hj
    go_loopw [6] (fun i wx => i = .int .i64 0 ∧ Below w.heap.size w wx) (fun _ _ => 0)
    case atStart => exact ⟨rfl, HB2⟩
    case round =>
      clear HB2
      obtain ⟨rfl, HB2⟩ := hrel
      go_wp2_with fail
      go_loopw [9] (fun i wx => i = .int .i64 0 ∧ Below w.heap.size w wx) (fun _ _ => 0)
      case atStart => exact ⟨rfl, HB2⟩
      case round =>
        clear HB2
        obtain ⟨rfl, HB2⟩ := hrel
        go_wp2_with fail
        go_loopw [11] (fun i wx => i = .int .i64 0 ∧ Below w.heap.size w wx) (fun _ _ => 0)
        case atStart => exact ⟨rfl, HB2⟩
        case round =>
          clear HB2
          obtain ⟨rfl, HB2⟩ := hrel
          go_wp2_with fail
          go_loopw [14] (fun i wx => i = .int .i64 0 ∧ Below w.heap.size w wx) (fun _ _ => 0)
          case atStart => exact ⟨rfl, HB2⟩
          case round =>
            clear HB2
            obtain ⟨rfl, HB2⟩ := hrel
            go_wp2_with fail
            go_ret
            exact ⟨rfl, HB2⟩

theorem infoflatWords : (Try.prog.info? 114).map (fun i => (i.zero, i.size, i.bytes)) = some (some (.slice none 0 0), 1, 24) := by kernel_rfl
theorem undflatWords : Try.prog.underlying 80 = some (.slice 114) := by kernel_rfl
set_option maxRecDepth 100000 in
theorem flatWords_no (w : World) : Calls Try.prog 65 #[.slice none 0 0] w fun e w' => e = .returned (.bool true) ∧ Below w.heap.size w w' := by
  obtain ⟨j0, hj, hy0, hy1, hy2⟩ := info_parts infoflatWords
  go_enter Try.func65, Try.ntmps65
  go_wp2_with fail
  go_loopw [3] (fun i wr => i = .int .i64 0 ∧ Below w.heap.size w wr) (fun _ _ => 0)
  case atStart => exact ⟨rfl, Below.refl _ _⟩
  case round =>
    obtain ⟨rfl, HB⟩ := hrel
    go_wp2_with (at_make; refine wpList_make_full _ rfl _ _ _ rfl w.heap.size 114 j0 (.slice none 0 0) 1 undflatWords hj hy0 hy1 .i64 .i64 _ _ 0 rfl rfl rfl rfl (by omega) (by simp only [maxLen]; omega) HB.size ?_; intro w2 hown2 hg2)
    have HB2 : Below w.heap.size w w2 := HB.grown hg2 HB.size (by simp)
    clear hown2 hg2 HB
    clear hy0 hy1 hy2 hj
    go_loopw [6] (fun i wx => i = .int .i64 0 ∧ Below w.heap.size w wx) (fun _ _ => 0)
    case atStart => exact ⟨rfl, HB2⟩
    case round =>
      clear HB2
      obtain ⟨rfl, HB2⟩ := hrel
      go_wp2_with fail
      go_loopw [9] (fun i wx => i = .int .i64 0 ∧ Below w.heap.size w wx) (fun _ _ => 0)
      case atStart => exact ⟨rfl, HB2⟩
      case round =>
        clear HB2
        obtain ⟨rfl, HB2⟩ := hrel
        go_wp2_with fail
        go_loopw [11] (fun i wx => i = .int .i64 0 ∧ Below w.heap.size w wx) (fun _ _ => 0)
        case atStart => exact ⟨rfl, HB2⟩
        case round =>
          clear HB2
          obtain ⟨rfl, HB2⟩ := hrel
          go_wp2_with fail
          go_loopw [14] (fun i wx => i = .int .i64 0 ∧ Below w.heap.size w wx) (fun _ _ => 0)
          case atStart => exact ⟨rfl, HB2⟩
          case round =>
            clear HB2
            obtain ⟨rfl, HB2⟩ := hrel
            go_wp2_with fail
            go_ret
            exact ⟨rfl, HB2⟩

theorem infoflatKeys : (Try.prog.info? 116).map (fun i => (i.zero, i.size, i.bytes)) = some (some (.slice none 0 0), 1, 24) := by kernel_rfl
theorem undflatKeys : Try.prog.underlying 81 = some (.slice 116) := by kernel_rfl
set_option maxRecDepth 100000 in
theorem flatKeys_no (w : World) : Calls Try.prog 66 #[.slice none 0 0] w fun e w' => e = .returned (.bool true) ∧ Below w.heap.size w w' := by
  obtain ⟨j0, hj, hy0, hy1, hy2⟩ := info_parts infoflatKeys
  go_enter Try.func66, Try.ntmps66
  go_wp2_with fail
  go_loopw [3] (fun i wr => i = .int .i64 0 ∧ Below w.heap.size w wr) (fun _ _ => 0)
  case atStart => exact ⟨rfl, Below.refl _ _⟩
  case round =>
    obtain ⟨rfl, HB⟩ := hrel
    go_wp2_with (at_make; refine wpList_make_full _ rfl _ _ _ rfl w.heap.size 116 j0 (.slice none 0 0) 1 undflatKeys hj hy0 hy1 .i64 .i64 _ _ 0 rfl rfl rfl rfl (by omega) (by simp only [maxLen]; omega) HB.size ?_; intro w2 hown2 hg2)
    have HB2 : Below w.heap.size w w2 := HB.grown hg2 HB.size (by simp)
    clear hown2 hg2 HB
    clear hy0 hy1 hy2 hj
    go_loopw [6] (fun i wx => i = .int .i64 0 ∧ Below w.heap.size w wx) (fun _ _ => 0)
    case atStart => exact ⟨rfl, HB2⟩
    case round =>
      clear HB2
      obtain ⟨rfl, HB2⟩ := hrel
      go_wp2_with fail
      go_loopw [9] (fun i wx => i = .int .i64 0 ∧ Below w.heap.size w wx) (fun _ _ => 0)
      case atStart => exact ⟨rfl, HB2⟩
      case round =>
        clear HB2
        obtain ⟨rfl, HB2⟩ := hrel
        go_wp2_with fail
        go_loopw [11] (fun i wx => i = .int .i64 0 ∧ Below w.heap.size w wx) (fun _ _ => 0)
        case atStart => exact ⟨rfl, HB2⟩
        case round =>
          clear HB2
          obtain ⟨rfl, HB2⟩ := hrel
          go_wp2_with fail
          go_loopw [14] (fun i wx => i = .int .i64 0 ∧ Below w.heap.size w wx) (fun _ _ => 0)
          case atStart => exact ⟨rfl, HB2⟩
          case round =>
            clear HB2
            obtain ⟨rfl, HB2⟩ := hrel
            go_wp2_with fail
            go_ret
            exact ⟨rfl, HB2⟩

theorem infoflatFactsLists : (Try.prog.info? 120).map (fun i => (i.zero, i.size, i.bytes)) = some (some (.slice none 0 0), 1, 24) := by kernel_rfl
theorem undflatFactsLists : Try.prog.underlying 82 = some (.slice 120) := by kernel_rfl
set_option maxRecDepth 100000 in
theorem flatFactsLists_no (w : World) : Calls Try.prog 67 #[.slice none 0 0] w fun e w' => e = .returned (.bool true) ∧ Below w.heap.size w w' := by
  obtain ⟨j0, hj, hy0, hy1, hy2⟩ := info_parts infoflatFactsLists
  go_enter Try.func67, Try.ntmps67
  go_wp2_with fail
  go_loopw [3] (fun i wr => i = .int .i64 0 ∧ Below w.heap.size w wr) (fun _ _ => 0)
  case atStart => exact ⟨rfl, Below.refl _ _⟩
  case round =>
    obtain ⟨rfl, HB⟩ := hrel
    go_wp2_with (at_make; refine wpList_make_full _ rfl _ _ _ rfl w.heap.size 120 j0 (.slice none 0 0) 1 undflatFactsLists hj hy0 hy1 .i64 .i64 _ _ 0 rfl rfl rfl rfl (by omega) (by simp only [maxLen]; omega) HB.size ?_; intro w2 hown2 hg2)
    have HB2 : Below w.heap.size w w2 := HB.grown hg2 HB.size (by simp)
    clear hown2 hg2 HB
    clear hy0 hy1 hy2 hj
    go_loopw [6] (fun i wx => i = .int .i64 0 ∧ Below w.heap.size w wx) (fun _ _ => 0)
    case atStart => exact ⟨rfl, HB2⟩
    case round =>
      clear HB2
      obtain ⟨rfl, HB2⟩ := hrel
      go_wp2_with fail
      go_loopw [9] (fun i wx => i = .int .i64 0 ∧ Below w.heap.size w wx) (fun _ _ => 0)
      case atStart => exact ⟨rfl, HB2⟩
      case round =>
        clear HB2
        obtain ⟨rfl, HB2⟩ := hrel
        go_wp2_with fail
        go_loopw [11] (fun i wx => i = .int .i64 0 ∧ Below w.heap.size w wx) (fun _ _ => 0)
        case atStart => exact ⟨rfl, HB2⟩
        case round =>
          clear HB2
          obtain ⟨rfl, HB2⟩ := hrel
          go_wp2_with fail
          go_loopw [14] (fun i wx => i = .int .i64 0 ∧ Below w.heap.size w wx) (fun _ _ => 0)
          case atStart => exact ⟨rfl, HB2⟩
          case round =>
            clear HB2
            obtain ⟨rfl, HB2⟩ := hrel
            go_wp2_with fail
            go_ret
            exact ⟨rfl, HB2⟩

theorem infoflatPrefixes : (Try.prog.info? 124).map (fun i => (i.zero, i.size, i.bytes)) = some (some (.slice none 0 0), 1, 24) := by kernel_rfl
theorem undflatPrefixes : Try.prog.underlying 83 = some (.slice 124) := by kernel_rfl
set_option maxRecDepth 100000 in
theorem flatPrefixes_no (w : World) : Calls Try.prog 68 #[.slice none 0 0] w fun e w' => e = .returned (.bool true) ∧ Below w.heap.size w w' := by
  obtain ⟨j0, hj, hy0, hy1, hy2⟩ := info_parts infoflatPrefixes
  go_enter Try.func68, Try.ntmps68
  go_wp2_with fail
  go_loopw [3] (fun i wr => i = .int .i64 0 ∧ Below w.heap.size w wr) (fun _ _ => 0)
  case atStart => exact ⟨rfl, Below.refl _ _⟩
  case round =>
    obtain ⟨rfl, HB⟩ := hrel
    go_wp2_with (at_make; refine wpList_make_full _ rfl _ _ _ rfl w.heap.size 124 j0 (.slice none 0 0) 1 undflatPrefixes hj hy0 hy1 .i64 .i64 _ _ 0 rfl rfl rfl rfl (by omega) (by simp only [maxLen]; omega) HB.size ?_; intro w2 hown2 hg2)
    have HB2 : Below w.heap.size w w2 := HB.grown hg2 HB.size (by simp)
    clear hown2 hg2 HB
    clear hy0 hy1 hy2 hj
    go_loopw [6] (fun i wx => i = .int .i64 0 ∧ Below w.heap.size w wx) (fun _ _ => 0)
    case atStart => exact ⟨rfl, HB2⟩
    case round =>
      clear HB2
      obtain ⟨rfl, HB2⟩ := hrel
      go_wp2_with fail
      go_loopw [9] (fun i wx => i = .int .i64 0 ∧ Below w.heap.size w wx) (fun _ _ => 0)
      case atStart => exact ⟨rfl, HB2⟩
      case round =>
        clear HB2
        obtain ⟨rfl, HB2⟩ := hrel
        go_wp2_with fail
        go_loopw [11] (fun i wx => i = .int .i64 0 ∧ Below w.heap.size w wx) (fun _ _ => 0)
        case atStart => exact ⟨rfl, HB2⟩
        case round =>
          clear HB2
          obtain ⟨rfl, HB2⟩ := hrel
          go_wp2_with fail
          go_loopw [14] (fun i wx => i = .int .i64 0 ∧ Below w.heap.size w wx) (fun _ _ => 0)
          case atStart => exact ⟨rfl, HB2⟩
          case round =>
            clear HB2
            obtain ⟨rfl, HB2⟩ := hrel
            go_wp2_with fail
            go_ret
            exact ⟨rfl, HB2⟩

theorem infoflatRanges : (Try.prog.info? 128).map (fun i => (i.zero, i.size, i.bytes)) = some (some (.slice none 0 0), 1, 24) := by kernel_rfl
theorem undflatRanges : Try.prog.underlying 84 = some (.slice 128) := by kernel_rfl
set_option maxRecDepth 100000 in
theorem flatRanges_no (w : World) : Calls Try.prog 69 #[.slice none 0 0] w fun e w' => e = .returned (.bool true) ∧ Below w.heap.size w w' := by
  obtain ⟨j0, hj, hy0, hy1, hy2⟩ := info_parts infoflatRanges
  go_enter Try.func69, Try.ntmps69
  go_wp2_with fail
  go_loopw [3] (fun i wr => i = .int .i64 0 ∧ Below w.heap.size w wr) (fun _ _ => 0)
  case atStart => exact ⟨rfl, Below.refl _ _⟩
  case round =>
    obtain ⟨rfl, HB⟩ := hrel
    go_wp2_with (at_make; refine wpList_make_full _ rfl _ _ _ rfl w.heap.size 128 j0 (.slice none 0 0) 1 undflatRanges hj hy0 hy1 .i64 .i64 _ _ 0 rfl rfl rfl rfl (by omega) (by simp only [maxLen]; omega) HB.size ?_; intro w2 hown2 hg2)
    have HB2 : Below w.heap.size w w2 := HB.grown hg2 HB.size (by simp)
    clear hown2 hg2 HB
    clear hy0 hy1 hy2 hj
    go_loopw [6] (fun i wx => i = .int .i64 0 ∧ Below w.heap.size w wx) (fun _ _ => 0)
    case atStart => exact ⟨rfl, HB2⟩
    case round =>
      clear HB2
      obtain ⟨rfl, HB2⟩ := hrel
      go_wp2_with fail
      go_loopw [9] (fun i wx => i = .int .i64 0 ∧ Below w.heap.size w wx) (fun _ _ => 0)
      case atStart => exact ⟨rfl, HB2⟩
      case round =>
        clear HB2
        obtain ⟨rfl, HB2⟩ := hrel
        go_wp2_with fail
        go_loopw [11] (fun i wx => i = .int .i64 0 ∧ Below w.heap.size w wx) (fun _ _ => 0)
        case atStart => exact ⟨rfl, HB2⟩
        case round =>
          clear HB2
          obtain ⟨rfl, HB2⟩ := hrel
          go_wp2_with fail
          go_loopw [14] (fun i wx => i = .int .i64 0 ∧ Below w.heap.size w wx) (fun _ _ => 0)
          case atStart => exact ⟨rfl, HB2⟩
          case round =>
            clear HB2
            obtain ⟨rfl, HB2⟩ := hrel
            go_wp2_with fail
            go_ret
            exact ⟨rfl, HB2⟩

theorem infoflatRules : (Try.prog.info? 132).map (fun i => (i.zero, i.size, i.bytes)) = some (some (.slice none 0 0), 1, 24) := by kernel_rfl
theorem undflatRules : Try.prog.underlying 85 = some (.slice 132) := by kernel_rfl
set_option maxRecDepth 100000 in
theorem flatRules_no (w : World) : Calls Try.prog 70 #[.slice none 0 0] w fun e w' => e = .returned (.bool true) ∧ Below w.heap.size w w' := by
  obtain ⟨j0, hj, hy0, hy1, hy2⟩ := info_parts infoflatRules
  go_enter Try.func70, Try.ntmps70
  go_wp2_with fail
  go_loopw [3] (fun i wr => i = .int .i64 0 ∧ Below w.heap.size w wr) (fun _ _ => 0)
  case atStart => exact ⟨rfl, Below.refl _ _⟩
  case round =>
    obtain ⟨rfl, HB⟩ := hrel
    go_wp2_with (at_make; refine wpList_make_full _ rfl _ _ _ rfl w.heap.size 132 j0 (.slice none 0 0) 1 undflatRules hj hy0 hy1 .i64 .i64 _ _ 0 rfl rfl rfl rfl (by omega) (by simp only [maxLen]; omega) HB.size ?_; intro w2 hown2 hg2)
    have HB2 : Below w.heap.size w w2 := HB.grown hg2 HB.size (by simp)
    clear hown2 hg2 HB
    clear hy0 hy1 hy2 hj
    go_loopw [6] (fun i wx => i = .int .i64 0 ∧ Below w.heap.size w wx) (fun _ _ => 0)
    case atStart => exact ⟨rfl, HB2⟩
    case round =>
      clear HB2
      obtain ⟨rfl, HB2⟩ := hrel
      go_wp2_with fail
      go_loopw [9] (fun i wx => i = .int .i64 0 ∧ Below w.heap.size w wx) (fun _ _ => 0)
      case atStart => exact ⟨rfl, HB2⟩
      case round =>
        clear HB2
        obtain ⟨rfl, HB2⟩ := hrel
        go_wp2_with fail
        go_loopw [11] (fun i wx => i = .int .i64 0 ∧ Below w.heap.size w wx) (fun _ _ => 0)
        case atStart => exact ⟨rfl, HB2⟩
        case round =>
          clear HB2
          obtain ⟨rfl, HB2⟩ := hrel
          go_wp2_with fail
          go_loopw [14] (fun i wx => i = .int .i64 0 ∧ Below w.heap.size w wx) (fun _ _ => 0)
          case atStart => exact ⟨rfl, HB2⟩
          case round =>
            clear HB2
            obtain ⟨rfl, HB2⟩ := hrel
            go_wp2_with fail
            go_ret
            exact ⟨rfl, HB2⟩

theorem infoflatIntLists : (Try.prog.info? 78).map (fun i => (i.zero, i.size, i.bytes)) = some (some (.slice none 0 0), 1, 24) := by kernel_rfl
theorem undflatIntLists : Try.prog.underlying 86 = some (.slice 78) := by kernel_rfl
set_option maxRecDepth 100000 in
theorem flatIntLists_no (w : World) : Calls Try.prog 71 #[.slice none 0 0] w fun e w' => e = .returned (.bool true) ∧ Below w.heap.size w w' := by
  obtain ⟨j0, hj, hy0, hy1, hy2⟩ := info_parts infoflatIntLists
  go_enter Try.func71, Try.ntmps71
  go_wp2_with fail
  go_loopw [3] (fun i wr => i = .int .i64 0 ∧ Below w.heap.size w wr) (fun _ _ => 0)
  case atStart => exact ⟨rfl, Below.refl _ _⟩
  case round =>
    obtain ⟨rfl, HB⟩ := hrel
    go_wp2_with (at_make; refine wpList_make_full _ rfl _ _ _ rfl w.heap.size 78 j0 (.slice none 0 0) 1 undflatIntLists hj hy0 hy1 .i64 .i64 _ _ 0 rfl rfl rfl rfl (by omega) (by simp only [maxLen]; omega) HB.size ?_; intro w2 hown2 hg2)
    have HB2 : Below w.heap.size w w2 := HB.grown hg2 HB.size (by simp)
    clear hown2 hg2 HB
    clear hy0 hy1 hy2 hj
    go_loopw [6] (fun i wx => i = .int .i64 0 ∧ Below w.heap.size w wx) (fun _ _ => 0)
    case atStart => exact ⟨rfl, HB2⟩
    case round =>
      clear HB2
      obtain ⟨rfl, HB2⟩ := hrel
      go_wp2_with fail
      go_loopw [9] (fun i wx => i = .int .i64 0 ∧ Below w.heap.size w wx) (fun _ _ => 0)
      case atStart => exact ⟨rfl, HB2⟩
      case round =>
        clear HB2
        obtain ⟨rfl, HB2⟩ := hrel
        go_wp2_with fail
        go_loopw [11] (fun i wx => i = .int .i64 0 ∧ Below w.heap.size w wx) (fun _ _ => 0)
        case atStart => exact ⟨rfl, HB2⟩
        case round =>
          clear HB2
          obtain ⟨rfl, HB2⟩ := hrel
          go_wp2_with fail
          go_loopw [14] (fun i wx => i = .int .i64 0 ∧ Below w.heap.size w wx) (fun _ _ => 0)
          case atStart => exact ⟨rfl, HB2⟩
          case round =>
            clear HB2
            obtain ⟨rfl, HB2⟩ := hrel
            go_wp2_with fail
            go_ret
            exact ⟨rfl, HB2⟩

theorem infoflatTextLists : (Try.prog.info? 79).map (fun i => (i.zero, i.size, i.bytes)) = some (some (.slice none 0 0), 1, 24) := by kernel_rfl
theorem undflatTextLists : Try.prog.underlying 87 = some (.slice 79) := by kernel_rfl
set_option maxRecDepth 100000 in
theorem flatTextLists_no (w : World) : Calls Try.prog 72 #[.slice none 0 0] w fun e w' => e = .returned (.bool true) ∧ Below w.heap.size w w' := by
  obtain ⟨j0, hj, hy0, hy1, hy2⟩ := info_parts infoflatTextLists
  go_enter Try.func72, Try.ntmps72
  go_wp2_with fail
  go_loopw [3] (fun i wr => i = .int .i64 0 ∧ Below w.heap.size w wr) (fun _ _ => 0)
  case atStart => exact ⟨rfl, Below.refl _ _⟩
  case round =>
    obtain ⟨rfl, HB⟩ := hrel
    go_wp2_with (at_make; refine wpList_make_full _ rfl _ _ _ rfl w.heap.size 79 j0 (.slice none 0 0) 1 undflatTextLists hj hy0 hy1 .i64 .i64 _ _ 0 rfl rfl rfl rfl (by omega) (by simp only [maxLen]; omega) HB.size ?_; intro w2 hown2 hg2)
    have HB2 : Below w.heap.size w w2 := HB.grown hg2 HB.size (by simp)
    clear hown2 hg2 HB
    clear hy0 hy1 hy2 hj
    go_loopw [6] (fun i wx => i = .int .i64 0 ∧ Below w.heap.size w wx) (fun _ _ => 0)
    case atStart => exact ⟨rfl, HB2⟩
    case round =>
      clear HB2
      obtain ⟨rfl, HB2⟩ := hrel
      go_wp2_with fail
      go_loopw [9] (fun i wx => i = .int .i64 0 ∧ Below w.heap.size w wx) (fun _ _ => 0)
      case atStart => exact ⟨rfl, HB2⟩
      case round =>
        clear HB2
        obtain ⟨rfl, HB2⟩ := hrel
        go_wp2_with fail
        go_loopw [11] (fun i wx => i = .int .i64 0 ∧ Below w.heap.size w wx) (fun _ _ => 0)
        case atStart => exact ⟨rfl, HB2⟩
        case round =>
          clear HB2
          obtain ⟨rfl, HB2⟩ := hrel
          go_wp2_with fail
          go_loopw [14] (fun i wx => i = .int .i64 0 ∧ Below w.heap.size w wx) (fun _ _ => 0)
          case atStart => exact ⟨rfl, HB2⟩
          case round =>
            clear HB2
            obtain ⟨rfl, HB2⟩ := hrel
            go_wp2_with fail
            go_ret
            exact ⟨rfl, HB2⟩

theorem infoflatByteLists : (Try.prog.info? 67).map (fun i => (i.zero, i.size, i.bytes)) = some (some (.slice none 0 0), 1, 24) := by kernel_rfl
theorem undflatByteLists : Try.prog.underlying 88 = some (.slice 67) := by kernel_rfl
set_option maxRecDepth 100000 in
theorem flatByteLists_no (w : World) : Calls Try.prog 73 #[.slice none 0 0] w fun e w' => e = .returned (.bool true) ∧ Below w.heap.size w w' := by
  obtain ⟨j0, hj, hy0, hy1, hy2⟩ := info_parts infoflatByteLists
  go_enter Try.func73, Try.ntmps73
  go_wp2_with fail
  go_loopw [3] (fun i wr => i = .int .i64 0 ∧ Below w.heap.size w wr) (fun _ _ => 0)
  case atStart => exact ⟨rfl, Below.refl _ _⟩
  case round =>
    obtain ⟨rfl, HB⟩ := hrel
    go_wp2_with (at_make; refine wpList_make_full _ rfl _ _ _ rfl w.heap.size 67 j0 (.slice none 0 0) 1 undflatByteLists hj hy0 hy1 .i64 .i64 _ _ 0 rfl rfl rfl rfl (by omega) (by simp only [maxLen]; omega) HB.size ?_; intro w2 hown2 hg2)
    have HB2 : Below w.heap.size w w2 := HB.grown hg2 HB.size (by simp)
    clear hown2 hg2 HB
    clear hy0 hy1 hy2 hj
    go_loopw [6] (fun i wx => i = .int .i64 0 ∧ Below w.heap.size w wx) (fun _ _ => 0)
    case atStart => exact ⟨rfl, HB2⟩
    case round =>
      clear HB2
      obtain ⟨rfl, HB2⟩ := hrel
      go_wp2_with fail
      go_loopw [9] (fun i wx => i = .int .i64 0 ∧ Below w.heap.size w wx) (fun _ _ => 0)
      case atStart => exact ⟨rfl, HB2⟩
      case round =>
        clear HB2
        obtain ⟨rfl, HB2⟩ := hrel
        go_wp2_with fail
        go_loopw [11] (fun i wx => i = .int .i64 0 ∧ Below w.heap.size w wx) (fun _ _ => 0)
        case atStart => exact ⟨rfl, HB2⟩
        case round =>
          clear HB2
          obtain ⟨rfl, HB2⟩ := hrel
          go_wp2_with fail
          go_loopw [14] (fun i wx => i = .int .i64 0 ∧ Below w.heap.size w wx) (fun _ _ => 0)
          case atStart => exact ⟨rfl, HB2⟩
          case round =>
            clear HB2
            obtain ⟨rfl, HB2⟩ := hrel
            go_wp2_with fail
            go_ret
            exact ⟨rfl, HB2⟩

theorem infoflatRuleLists : (Try.prog.info? 85).map (fun i => (i.zero, i.size, i.bytes)) = some (some (.slice none 0 0), 1, 24) := by kernel_rfl
theorem undflatRuleLists : Try.prog.underlying 89 = some (.slice 85) := by kernel_rfl
set_option maxRecDepth 100000 in
theorem flatRuleLists_no (w : World) : Calls Try.prog 74 #[.slice none 0 0] w fun e w' => e = .returned (.bool true) ∧ Below w.heap.size w w' := by
  obtain ⟨j0, hj, hy0, hy1, hy2⟩ := info_parts infoflatRuleLists
  go_enter Try.func74, Try.ntmps74
  go_wp2_with fail
  go_loopw [3] (fun i wr => i = .int .i64 0 ∧ Below w.heap.size w wr) (fun _ _ => 0)
  case atStart => exact ⟨rfl, Below.refl _ _⟩
  case round =>
    obtain ⟨rfl, HB⟩ := hrel
    go_wp2_with (at_make; refine wpList_make_full _ rfl _ _ _ rfl w.heap.size 85 j0 (.slice none 0 0) 1 undflatRuleLists hj hy0 hy1 .i64 .i64 _ _ 0 rfl rfl rfl rfl (by omega) (by simp only [maxLen]; omega) HB.size ?_; intro w2 hown2 hg2)
    have HB2 : Below w.heap.size w w2 := HB.grown hg2 HB.size (by simp)
    clear hown2 hg2 HB
    clear hy0 hy1 hy2 hj
    go_loopw [6] (fun i wx => i = .int .i64 0 ∧ Below w.heap.size w wx) (fun _ _ => 0)
    case atStart => exact ⟨rfl, HB2⟩
    case round =>
      clear HB2
      obtain ⟨rfl, HB2⟩ := hrel
      go_wp2_with fail
      go_loopw [9] (fun i wx => i = .int .i64 0 ∧ Below w.heap.size w wx) (fun _ _ => 0)
      case atStart => exact ⟨rfl, HB2⟩
      case round =>
        clear HB2
        obtain ⟨rfl, HB2⟩ := hrel
        go_wp2_with fail
        go_loopw [11] (fun i wx => i = .int .i64 0 ∧ Below w.heap.size w wx) (fun _ _ => 0)
        case atStart => exact ⟨rfl, HB2⟩
        case round =>
          clear HB2
          obtain ⟨rfl, HB2⟩ := hrel
          go_wp2_with fail
          go_loopw [14] (fun i wx => i = .int .i64 0 ∧ Below w.heap.size w wx) (fun _ _ => 0)
          case atStart => exact ⟨rfl, HB2⟩
          case round =>
            clear HB2
            obtain ⟨rfl, HB2⟩ := hrel
            go_wp2_with fail
            go_ret
            exact ⟨rfl, HB2⟩
end Go.Proofs.Ytpfmecdldoehoaa
