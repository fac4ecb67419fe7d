/- The flat functions of the kit at no slices at all: true. Written by gen_flat0.py. -/
import Derived.Test.YtjbkfhdbgphodaaDoorWApart
namespace Go.Proofs.YtjbkfhdbgphodaaDoor
open Go.RowKit
attribute [local go_sem ↓] Go.wp_at_zero Go.wp_at_succ

theorem infoflatInts : (Tryd.prog.info? 130).map (fun i => (i.zero, i.size, i.bytes)) = some (some (.slice none 0 0), 1, 24) := by kernel_rfl
theorem undflatInts : Tryd.prog.underlying 98 = some (.slice 130) := by kernel_rfl
set_option maxRecDepth 100000 in
theorem flatInts_no (w : World) : Calls Tryd.prog 71 #[.slice none 0 0] w fun e w' => e = .returned (.bool true) ∧ Below w.heap.size w w' := by
  obtain ⟨j0, hj, hy0, hy1, hy2⟩ := info_parts infoflatInts
  go_enter Tryd.func71, Tryd.ntmps71
  go_wp2_with fail
  go_loopw [3] (fun i wr => i = .int .i64 0 ∧ Below w.heap.size w wr) (fun _ _ => 0)
  case atStart => exact ⟨rfl, Below.refl _ _⟩
  case round =>
    obtain ⟨rfl, HB⟩ := hrel
    go_wp2_with (at_make; refine wpList_make_full _ rfl _ _ _ rfl w.heap.size 130 j0 (.slice none 0 0) 1 undflatInts hj hy0 hy1 .i64 .i64 _ _ 0 rfl rfl rfl rfl (by omega) (by simp only [maxLen]; omega) HB.size ?_; intro w2 hown2 hg2)
    have HB2 : Below w.heap.size w w2 := HB.grown hg2 HB.size (by simp)
    clear hown2 hg2 HB
    clear hy0 hy1 hy2 hj
    go_loopw [6] (fun i wx => i = .int .i64 0 ∧ Below w.heap.size w wx) (fun _ _ => 0)
    case atStart => exact ⟨rfl, HB2⟩
    case round =>
      clear HB2
      obtain ⟨rfl, HB2⟩ := hrel
      go_wp2_with fail
      go_loopw [9] (fun i wx => i = .int .i64 0 ∧ Below w.heap.size w wx) (fun _ _ => 0)
      case atStart => exact ⟨rfl, HB2⟩
      case round =>
        clear HB2
        obtain ⟨rfl, HB2⟩ := hrel
        go_wp2_with fail
        go_loopw [11] (fun i wx => i = .int .i64 0 ∧ Below w.heap.size w wx) (fun _ _ => 0)
        case atStart => exact ⟨rfl, HB2⟩
        case round =>
          clear HB2
          obtain ⟨rfl, HB2⟩ := hrel
          go_wp2_with fail
          go_loopw [14] (fun i wx => i = .int .i64 0 ∧ Below w.heap.size w wx) (fun _ _ => 0)
          case atStart => exact ⟨rfl, HB2⟩
          case round =>
            clear HB2
            obtain ⟨rfl, HB2⟩ := hrel
            go_wp2_with fail
            go_ret
            exact ⟨rfl, HB2⟩

theorem infoflatTexts : (Tryd.prog.info? 131).map (fun i => (i.zero, i.size, i.bytes)) = some (some (.slice none 0 0), 1, 24) := by kernel_rfl
theorem undflatTexts : Tryd.prog.underlying 99 = some (.slice 131) := by kernel_rfl
set_option maxRecDepth 100000 in
theorem flatTexts_no (w : World) : Calls Tryd.prog 72 #[.slice none 0 0] w fun e w' => e = .returned (.bool true) ∧ Below w.heap.size w w' := by
  obtain ⟨j0, hj, hy0, hy1, hy2⟩ := info_parts infoflatTexts
  go_enter Tryd.func72, Tryd.ntmps72
  go_wp2_with fail
  go_loopw [3] (fun i wr => i = .int .i64 0 ∧ Below w.heap.size w wr) (fun _ _ => 0)
  case atStart => exact ⟨rfl, Below.refl _ _⟩
  case round =>
    obtain ⟨rfl, HB⟩ := hrel
    go_wp2_with (at_make; refine wpList_make_full _ rfl _ _ _ rfl w.heap.size 131 j0 (.slice none 0 0) 1 undflatTexts hj hy0 hy1 .i64 .i64 _ _ 0 rfl rfl rfl rfl (by omega) (by simp only [maxLen]; omega) HB.size ?_; intro w2 hown2 hg2)
    have HB2 : Below w.heap.size w w2 := HB.grown hg2 HB.size (by simp)
    clear hown2 hg2 HB
    clear hy0 hy1 hy2 hj
    go_loopw [6] (fun i wx => i = .int .i64 0 ∧ Below w.heap.size w wx) (fun _ _ => 0)
    case atStart => exact ⟨rfl, HB2⟩
    case round =>
      clear HB2
      obtain ⟨rfl, HB2⟩ := hrel
      go_wp2_with fail
      go_loopw [9] (fun i wx => i = .int .i64 0 ∧ Below w.heap.size w wx) (fun _ _ => 0)
      case atStart => exact ⟨rfl, HB2⟩
      case round =>
        clear HB2
        obtain ⟨rfl, HB2⟩ := hrel
        go_wp2_with fail
        go_loopw [11] (fun i wx => i = .int .i64 0 ∧ Below w.heap.size w wx) (fun _ _ => 0)
        case atStart => exact ⟨rfl, HB2⟩
        case round =>
          clear HB2
          obtain ⟨rfl, HB2⟩ := hrel
          go_wp2_with fail
          go_loopw [14] (fun i wx => i = .int .i64 0 ∧ Below w.heap.size w wx) (fun _ _ => 0)
          case atStart => exact ⟨rfl, HB2⟩
          case round =>
            clear HB2
            obtain ⟨rfl, HB2⟩ := hrel
            go_wp2_with fail
            go_ret
            exact ⟨rfl, HB2⟩

theorem infoflatWords : (Tryd.prog.info? 133).map (fun i => (i.zero, i.size, i.bytes)) = some (some (.slice none 0 0), 1, 24) := by kernel_rfl
theorem undflatWords : Tryd.prog.underlying 100 = some (.slice 133) := by kernel_rfl
set_option maxRecDepth 100000 in
theorem flatWords_no (w : World) : Calls Tryd.prog 74 #[.slice none 0 0] w fun e w' => e = .returned (.bool true) ∧ Below w.heap.size w w' := by
  obtain ⟨j0, hj, hy0, hy1, hy2⟩ := info_parts infoflatWords
  go_enter Tryd.func74, Tryd.ntmps74
  go_wp2_with fail
  go_loopw [3] (fun i wr => i = .int .i64 0 ∧ Below w.heap.size w wr) (fun _ _ => 0)
  case atStart => exact ⟨rfl, Below.refl _ _⟩
  case round =>
    obtain ⟨rfl, HB⟩ := hrel
    go_wp2_with (at_make; refine wpList_make_full _ rfl _ _ _ rfl w.heap.size 133 j0 (.slice none 0 0) 1 undflatWords hj hy0 hy1 .i64 .i64 _ _ 0 rfl rfl rfl rfl (by omega) (by simp only [maxLen]; omega) HB.size ?_; intro w2 hown2 hg2)
    have HB2 : Below w.heap.size w w2 := HB.grown hg2 HB.size (by simp)
    clear hown2 hg2 HB
    clear hy0 hy1 hy2 hj
    go_loopw [6] (fun i wx => i = .int .i64 0 ∧ Below w.heap.size w wx) (fun _ _ => 0)
    case atStart => exact ⟨rfl, HB2⟩
    case round =>
      clear HB2
      obtain ⟨rfl, HB2⟩ := hrel
      go_wp2_with fail
      go_loopw [9] (fun i wx => i = .int .i64 0 ∧ Below w.heap.size w wx) (fun _ _ => 0)
      case atStart => exact ⟨rfl, HB2⟩
      case round =>
        clear HB2
        obtain ⟨rfl, HB2⟩ := hrel
        go_wp2_with fail
        go_loopw [11] (fun i wx => i = .int .i64 0 ∧ Below w.heap.size w wx) (fun _ _ => 0)
        case atStart => exact ⟨rfl, HB2⟩
        case round =>
          clear HB2
          obtain ⟨rfl, HB2⟩ := hrel
          go_wp2_with fail
          go_loopw [14] (fun i wx => i = .int .i64 0 ∧ Below w.heap.size w wx) (fun _ _ => 0)
          case atStart => exact ⟨rfl, HB2⟩
          case round =>
            clear HB2
            obtain ⟨rfl, HB2⟩ := hrel
            go_wp2_with fail
            go_ret
            exact ⟨rfl, HB2⟩

theorem infoflatKeys : (Tryd.prog.info? 135).map (fun i => (i.zero, i.size, i.bytes)) = some (some (.slice none 0 0), 1, 24) := by kernel_rfl
theorem undflatKeys : Tryd.prog.underlying 101 = some (.slice 135) := by kernel_rfl
set_option maxRecDepth 100000 in
theorem flatKeys_no (w : World) : Calls Tryd.prog 75 #[.slice none 0 0] w fun e w' => e = .returned (.bool true) ∧ Below w.heap.size w w' := by
  obtain ⟨j0, hj, hy0, hy1, hy2⟩ := info_parts infoflatKeys
  go_enter Tryd.func75, Tryd.ntmps75
  go_wp2_with fail
  go_loopw [3] (fun i wr => i = .int .i64 0 ∧ Below w.heap.size w wr) (fun _ _ => 0)
  case atStart => exact ⟨rfl, Below.refl _ _⟩
  case round =>
    obtain ⟨rfl, HB⟩ := hrel
    go_wp2_with (at_make; refine wpList_make_full _ rfl _ _ _ rfl w.heap.size 135 j0 (.slice none 0 0) 1 undflatKeys hj hy0 hy1 .i64 .i64 _ _ 0 rfl rfl rfl rfl (by omega) (by simp only [maxLen]; omega) HB.size ?_; intro w2 hown2 hg2)
    have HB2 : Below w.heap.size w w2 := HB.grown hg2 HB.size (by simp)
    clear hown2 hg2 HB
    clear hy0 hy1 hy2 hj
    go_loopw [6] (fun i wx => i = .int .i64 0 ∧ Below w.heap.size w wx) (fun _ _ => 0)
    case atStart => exact ⟨rfl, HB2⟩
    case round =>
      clear HB2
      obtain ⟨rfl, HB2⟩ := hrel
      go_wp2_with fail
      go_loopw [9] (fun i wx => i = .int .i64 0 ∧ Below w.heap.size w wx) (fun _ _ => 0)
      case atStart => exact ⟨rfl, HB2⟩
      case round =>
        clear HB2
        obtain ⟨rfl, HB2⟩ := hrel
        go_wp2_with fail
        go_loopw [11] (fun i wx => i = .int .i64 0 ∧ Below w.heap.size w wx) (fun _ _ => 0)
        case atStart => exact ⟨rfl, HB2⟩
        case round =>
          clear HB2
          obtain ⟨rfl, HB2⟩ := hrel
          go_wp2_with fail
          go_loopw [14] (fun i wx => i = .int .i64 0 ∧ Below w.heap.size w wx) (fun _ _ => 0)
          case atStart => exact ⟨rfl, HB2⟩
          case round =>
            clear HB2
            obtain ⟨rfl, HB2⟩ := hrel
            go_wp2_with fail
            go_ret
            exact ⟨rfl, HB2⟩

theorem infoflatFactsLists : (Tryd.prog.info? 137).map (fun i => (i.zero, i.size, i.bytes)) = some (some (.slice none 0 0), 1, 24) := by kernel_rfl
theorem undflatFactsLists : Tryd.prog.underlying 102 = some (.slice 137) := by kernel_rfl
set_option maxRecDepth 100000 in
theorem flatFactsLists_no (w : World) : Calls Tryd.prog 76 #[.slice none 0 0] w fun e w' => e = .returned (.bool true) ∧ Below w.heap.size w w' := by
  obtain ⟨j0, hj, hy0, hy1, hy2⟩ := info_parts infoflatFactsLists
  go_enter Tryd.func76, Tryd.ntmps76
  go_wp2_with fail
  go_loopw [3] (fun i wr => i = .int .i64 0 ∧ Below w.heap.size w wr) (fun _ _ => 0)
  case atStart => exact ⟨rfl, Below.refl _ _⟩
  case round =>
    obtain ⟨rfl, HB⟩ := hrel
    go_wp2_with (at_make; refine wpList_make_full _ rfl _ _ _ rfl w.heap.size 137 j0 (.slice none 0 0) 1 undflatFactsLists hj hy0 hy1 .i64 .i64 _ _ 0 rfl rfl rfl rfl (by omega) (by simp only [maxLen]; omega) HB.size ?_; intro w2 hown2 hg2)
    have HB2 : Below w.heap.size w w2 := HB.grown hg2 HB.size (by simp)
    clear hown2 hg2 HB
    clear hy0 hy1 hy2 hj
    go_loopw [6] (fun i wx => i = .int .i64 0 ∧ Below w.heap.size w wx) (fun _ _ => 0)
    case atStart => exact ⟨rfl, HB2⟩
    case round =>
      clear HB2
      obtain ⟨rfl, HB2⟩ := hrel
      go_wp2_with fail
      go_loopw [9] (fun i wx => i = .int .i64 0 ∧ Below w.heap.size w wx) (fun _ _ => 0)
      case atStart => exact ⟨rfl, HB2⟩
      case round =>
        clear HB2
        obtain ⟨rfl, HB2⟩ := hrel
        go_wp2_with fail
        go_loopw [11] (fun i wx => i = .int .i64 0 ∧ Below w.heap.size w wx) (fun _ _ => 0)
        case atStart => exact ⟨rfl, HB2⟩
        case round =>
          clear HB2
          obtain ⟨rfl, HB2⟩ := hrel
          go_wp2_with fail
          go_loopw [14] (fun i wx => i = .int .i64 0 ∧ Below w.heap.size w wx) (fun _ _ => 0)
          case atStart => exact ⟨rfl, HB2⟩
          case round =>
            clear HB2
            obtain ⟨rfl, HB2⟩ := hrel
            go_wp2_with fail
            go_ret
            exact ⟨rfl, HB2⟩

theorem infoflatPrefixes : (Tryd.prog.info? 141).map (fun i => (i.zero, i.size, i.bytes)) = some (some (.slice none 0 0), 1, 24) := by kernel_rfl
theorem undflatPrefixes : Tryd.prog.underlying 103 = some (.slice 141) := by kernel_rfl
set_option maxRecDepth 100000 in
theorem flatPrefixes_no (w : World) : Calls Tryd.prog 77 #[.slice none 0 0] w fun e w' => e = .returned (.bool true) ∧ Below w.heap.size w w' := by
  obtain ⟨j0, hj, hy0, hy1, hy2⟩ := info_parts infoflatPrefixes
  go_enter Tryd.func77, Tryd.ntmps77
  go_wp2_with fail
  go_loopw [3] (fun i wr => i = .int .i64 0 ∧ Below w.heap.size w wr) (fun _ _ => 0)
  case atStart => exact ⟨rfl, Below.refl _ _⟩
  case round =>
    obtain ⟨rfl, HB⟩ := hrel
    go_wp2_with (at_make; refine wpList_make_full _ rfl _ _ _ rfl w.heap.size 141 j0 (.slice none 0 0) 1 undflatPrefixes hj hy0 hy1 .i64 .i64 _ _ 0 rfl rfl rfl rfl (by omega) (by simp only [maxLen]; omega) HB.size ?_; intro w2 hown2 hg2)
    have HB2 : Below w.heap.size w w2 := HB.grown hg2 HB.size (by simp)
    clear hown2 hg2 HB
    clear hy0 hy1 hy2 hj
    go_loopw [6] (fun i wx => i = .int .i64 0 ∧ Below w.heap.size w wx) (fun _ _ => 0)
    case atStart => exact ⟨rfl, HB2⟩
    case round =>
      clear HB2
      obtain ⟨rfl, HB2⟩ := hrel
      go_wp2_with fail
      go_loopw [9] (fun i wx => i = .int .i64 0 ∧ Below w.heap.size w wx) (fun _ _ => 0)
      case atStart => exact ⟨rfl, HB2⟩
      case round =>
        clear HB2
        obtain ⟨rfl, HB2⟩ := hrel
        go_wp2_with fail
        go_loopw [11] (fun i wx => i = .int .i64 0 ∧ Below w.heap.size w wx) (fun _ _ => 0)
        case atStart => exact ⟨rfl, HB2⟩
        case round =>
          clear HB2
          obtain ⟨rfl, HB2⟩ := hrel
          go_wp2_with fail
          go_loopw [14] (fun i wx => i = .int .i64 0 ∧ Below w.heap.size w wx) (fun _ _ => 0)
          case atStart => exact ⟨rfl, HB2⟩
          case round =>
            clear HB2
            obtain ⟨rfl, HB2⟩ := hrel
            go_wp2_with fail
            go_ret
            exact ⟨rfl, HB2⟩

theorem infoflatRanges : (Tryd.prog.info? 145).map (fun i => (i.zero, i.size, i.bytes)) = some (some (.slice none 0 0), 1, 24) := by kernel_rfl
theorem undflatRanges : Tryd.prog.underlying 104 = some (.slice 145) := by kernel_rfl
set_option maxRecDepth 100000 in
theorem flatRanges_no (w : World) : Calls Tryd.prog 78 #[.slice none 0 0] w fun e w' => e = .returned (.bool true) ∧ Below w.heap.size w w' := by
  obtain ⟨j0, hj, hy0, hy1, hy2⟩ := info_parts infoflatRanges
  go_enter Tryd.func78, Tryd.ntmps78
  go_wp2_with fail
  go_loopw [3] (fun i wr => i = .int .i64 0 ∧ Below w.heap.size w wr) (fun _ _ => 0)
  case atStart => exact ⟨rfl, Below.refl _ _⟩
  case round =>
    obtain ⟨rfl, HB⟩ := hrel
    go_wp2_with (at_make; refine wpList_make_full _ rfl _ _ _ rfl w.heap.size 145 j0 (.slice none 0 0) 1 undflatRanges hj hy0 hy1 .i64 .i64 _ _ 0 rfl rfl rfl rfl (by omega) (by simp only [maxLen]; omega) HB.size ?_; intro w2 hown2 hg2)
    have HB2 : Below w.heap.size w w2 := HB.grown hg2 HB.size (by simp)
    clear hown2 hg2 HB
    clear hy0 hy1 hy2 hj
    go_loopw [6] (fun i wx => i = .int .i64 0 ∧ Below w.heap.size w wx) (fun _ _ => 0)
    case atStart => exact ⟨rfl, HB2⟩
    case round =>
      clear HB2
      obtain ⟨rfl, HB2⟩ := hrel
      go_wp2_with fail
      go_loopw [9] (fun i wx => i = .int .i64 0 ∧ Below w.heap.size w wx) (fun _ _ => 0)
      case atStart => exact ⟨rfl, HB2⟩
      case round =>
        clear HB2
        obtain ⟨rfl, HB2⟩ := hrel
        go_wp2_with fail
        go_loopw [11] (fun i wx => i = .int .i64 0 ∧ Below w.heap.size w wx) (fun _ _ => 0)
        case atStart => exact ⟨rfl, HB2⟩
        case round =>
          clear HB2
          obtain ⟨rfl, HB2⟩ := hrel
          go_wp2_with fail
          go_loopw [14] (fun i wx => i = .int .i64 0 ∧ Below w.heap.size w wx) (fun _ _ => 0)
          case atStart => exact ⟨rfl, HB2⟩
          case round =>
            clear HB2
            obtain ⟨rfl, HB2⟩ := hrel
            go_wp2_with fail
            go_ret
            exact ⟨rfl, HB2⟩

theorem infoflatRules : (Tryd.prog.info? 149).map (fun i => (i.zero, i.size, i.bytes)) = some (some (.slice none 0 0), 1, 24) := by kernel_rfl
theorem undflatRules : Tryd.prog.underlying 105 = some (.slice 149) := by kernel_rfl
set_option maxRecDepth 100000 in
theorem flatRules_no (w : World) : Calls Tryd.prog 79 #[.slice none 0 0] w fun e w' => e = .returned (.bool true) ∧ Below w.heap.size w w' := by
  obtain ⟨j0, hj, hy0, hy1, hy2⟩ := info_parts infoflatRules
  go_enter Tryd.func79, Tryd.ntmps79
  go_wp2_with fail
  go_loopw [3] (fun i wr => i = .int .i64 0 ∧ Below w.heap.size w wr) (fun _ _ => 0)
  case atStart => exact ⟨rfl, Below.refl _ _⟩
  case round =>
    obtain ⟨rfl, HB⟩ := hrel
    go_wp2_with (at_make; refine wpList_make_full _ rfl _ _ _ rfl w.heap.size 149 j0 (.slice none 0 0) 1 undflatRules hj hy0 hy1 .i64 .i64 _ _ 0 rfl rfl rfl rfl (by omega) (by simp only [maxLen]; omega) HB.size ?_; intro w2 hown2 hg2)
    have HB2 : Below w.heap.size w w2 := HB.grown hg2 HB.size (by simp)
    clear hown2 hg2 HB
    clear hy0 hy1 hy2 hj
    go_loopw [6] (fun i wx => i = .int .i64 0 ∧ Below w.heap.size w wx) (fun _ _ => 0)
    case atStart => exact ⟨rfl, HB2⟩
    case round =>
      clear HB2
      obtain ⟨rfl, HB2⟩ := hrel
      go_wp2_with fail
      go_loopw [9] (fun i wx => i = .int .i64 0 ∧ Below w.heap.size w wx) (fun _ _ => 0)
      case atStart => exact ⟨rfl, HB2⟩
      case round =>
        clear HB2
        obtain ⟨rfl, HB2⟩ := hrel
        go_wp2_with fail
        go_loopw [11] (fun i wx => i = .int .i64 0 ∧ Below w.heap.size w wx) (fun _ _ => 0)
        case atStart => exact ⟨rfl, HB2⟩
        case round =>
          clear HB2
          obtain ⟨rfl, HB2⟩ := hrel
          go_wp2_with fail
          go_loopw [14] (fun i wx => i = .int .i64 0 ∧ Below w.heap.size w wx) (fun _ _ => 0)
          case atStart => exact ⟨rfl, HB2⟩
          case round =>
            clear HB2
            obtain ⟨rfl, HB2⟩ := hrel
            go_wp2_with fail
            go_ret
            exact ⟨rfl, HB2⟩

theorem infoflatIntLists : (Tryd.prog.info? 98).map (fun i => (i.zero, i.size, i.bytes)) = some (some (.slice none 0 0), 1, 24) := by kernel_rfl
theorem undflatIntLists : Tryd.prog.underlying 106 = some (.slice 98) := by kernel_rfl
set_option maxRecDepth 100000 in
theorem flatIntLists_no (w : World) : Calls Tryd.prog 80 #[.slice none 0 0] w fun e w' => e = .returned (.bool true) ∧ Below w.heap.size w w' := by
  obtain ⟨j0, hj, hy0, hy1, hy2⟩ := info_parts infoflatIntLists
  go_enter Tryd.func80, Tryd.ntmps80
  go_wp2_with fail
  go_loopw [3] (fun i wr => i = .int .i64 0 ∧ Below w.heap.size w wr) (fun _ _ => 0)
  case atStart => exact ⟨rfl, Below.refl _ _⟩
  case round =>
    obtain ⟨rfl, HB⟩ := hrel
    go_wp2_with (at_make; refine wpList_make_full _ rfl _ _ _ rfl w.heap.size 98 j0 (.slice none 0 0) 1 undflatIntLists hj hy0 hy1 .i64 .i64 _ _ 0 rfl rfl rfl rfl (by omega) (by simp only [maxLen]; omega) HB.size ?_; intro w2 hown2 hg2)
    have HB2 : Below w.heap.size w w2 := HB.grown hg2 HB.size (by simp)
    clear hown2 hg2 HB
    clear hy0 hy1 hy2 hj
    go_loopw [6] (fun i wx => i = .int .i64 0 ∧ Below w.heap.size w wx) (fun _ _ => 0)
    case atStart => exact ⟨rfl, HB2⟩
    case round =>
      clear HB2
      obtain ⟨rfl, HB2⟩ := hrel
      go_wp2_with fail
      go_loopw [9] (fun i wx => i = .int .i64 0 ∧ Below w.heap.size w wx) (fun _ _ => 0)
      case atStart => exact ⟨rfl, HB2⟩
      case round =>
        clear HB2
        obtain ⟨rfl, HB2⟩ := hrel
        go_wp2_with fail
        go_loopw [11] (fun i wx => i = .int .i64 0 ∧ Below w.heap.size w wx) (fun _ _ => 0)
        case atStart => exact ⟨rfl, HB2⟩
        case round =>
          clear HB2
          obtain ⟨rfl, HB2⟩ := hrel
          go_wp2_with fail
          go_loopw [14] (fun i wx => i = .int .i64 0 ∧ Below w.heap.size w wx) (fun _ _ => 0)
          case atStart => exact ⟨rfl, HB2⟩
          case round =>
            clear HB2
            obtain ⟨rfl, HB2⟩ := hrel
            go_wp2_with fail
            go_ret
            exact ⟨rfl, HB2⟩

theorem infoflatTextLists : (Tryd.prog.info? 99).map (fun i => (i.zero, i.size, i.bytes)) = some (some (.slice none 0 0), 1, 24) := by kernel_rfl
theorem undflatTextLists : Tryd.prog.underlying 107 = some (.slice 99) := by kernel_rfl
set_option maxRecDepth 100000 in
theorem flatTextLists_no (w : World) : Calls Tryd.prog 81 #[.slice none 0 0] w fun e w' => e = .returned (.bool true) ∧ Below w.heap.size w w' := by
  obtain ⟨j0, hj, hy0, hy1, hy2⟩ := info_parts infoflatTextLists
  go_enter Tryd.func81, Tryd.ntmps81
  go_wp2_with fail
  go_loopw [3] (fun i wr => i = .int .i64 0 ∧ Below w.heap.size w wr) (fun _ _ => 0)
  case atStart => exact ⟨rfl, Below.refl _ _⟩
  case round =>
    obtain ⟨rfl, HB⟩ := hrel
    go_wp2_with (at_make; refine wpList_make_full _ rfl _ _ _ rfl w.heap.size 99 j0 (.slice none 0 0) 1 undflatTextLists hj hy0 hy1 .i64 .i64 _ _ 0 rfl rfl rfl rfl (by omega) (by simp only [maxLen]; omega) HB.size ?_; intro w2 hown2 hg2)
    have HB2 : Below w.heap.size w w2 := HB.grown hg2 HB.size (by simp)
    clear hown2 hg2 HB
    clear hy0 hy1 hy2 hj
    go_loopw [6] (fun i wx => i = .int .i64 0 ∧ Below w.heap.size w wx) (fun _ _ => 0)
    case atStart => exact ⟨rfl, HB2⟩
    case round =>
      clear HB2
      obtain ⟨rfl, HB2⟩ := hrel
      go_wp2_with fail
      go_loopw [9] (fun i wx => i = .int .i64 0 ∧ Below w.heap.size w wx) (fun _ _ => 0)
      case atStart => exact ⟨rfl, HB2⟩
      case round =>
        clear HB2
        obtain ⟨rfl, HB2⟩ := hrel
        go_wp2_with fail
        go_loopw [11] (fun i wx => i = .int .i64 0 ∧ Below w.heap.size w wx) (fun _ _ => 0)
        case atStart => exact ⟨rfl, HB2⟩
        case round =>
          clear HB2
          obtain ⟨rfl, HB2⟩ := hrel
          go_wp2_with fail
          go_loopw [14] (fun i wx => i = .int .i64 0 ∧ Below w.heap.size w wx) (fun _ _ => 0)
          case atStart => exact ⟨rfl, HB2⟩
          case round =>
            clear HB2
            obtain ⟨rfl, HB2⟩ := hrel
            go_wp2_with fail
            go_ret
            exact ⟨rfl, HB2⟩

theorem infoflatByteLists : (Tryd.prog.info? 71).map (fun i => (i.zero, i.size, i.bytes)) = some (some (.slice none 0 0), 1, 24) := by kernel_rfl
theorem undflatByteLists : Tryd.prog.underlying 108 = some (.slice 71) := by kernel_rfl
set_option maxRecDepth 100000 in
theorem flatByteLists_no (w : World) : Calls Tryd.prog 82 #[.slice none 0 0] w fun e w' => e = .returned (.bool true) ∧ Below w.heap.size w w' := by
  obtain ⟨j0, hj, hy0, hy1, hy2⟩ := info_parts infoflatByteLists
  go_enter Tryd.func82, Tryd.ntmps82
  go_wp2_with fail
  go_loopw [3] (fun i wr => i = .int .i64 0 ∧ Below w.heap.size w wr) (fun _ _ => 0)
  case atStart => exact ⟨rfl, Below.refl _ _⟩
  case round =>
    obtain ⟨rfl, HB⟩ := hrel
    go_wp2_with (at_make; refine wpList_make_full _ rfl _ _ _ rfl w.heap.size 71 j0 (.slice none 0 0) 1 undflatByteLists hj hy0 hy1 .i64 .i64 _ _ 0 rfl rfl rfl rfl (by omega) (by simp only [maxLen]; omega) HB.size ?_; intro w2 hown2 hg2)
    have HB2 : Below w.heap.size w w2 := HB.grown hg2 HB.size (by simp)
    clear hown2 hg2 HB
    clear hy0 hy1 hy2 hj
    go_loopw [6] (fun i wx => i = .int .i64 0 ∧ Below w.heap.size w wx) (fun _ _ => 0)
    case atStart => exact ⟨rfl, HB2⟩
    case round =>
      clear HB2
      obtain ⟨rfl, HB2⟩ := hrel
      go_wp2_with fail
      go_loopw [9] (fun i wx => i = .int .i64 0 ∧ Below w.heap.size w wx) (fun _ _ => 0)
      case atStart => exact ⟨rfl, HB2⟩
      case round =>
        clear HB2
        obtain ⟨rfl, HB2⟩ := hrel
        go_wp2_with fail
        go_loopw [11] (fun i wx => i = .int .i64 0 ∧ Below w.heap.size w wx) (fun _ _ => 0)
        case atStart => exact ⟨rfl, HB2⟩
        case round =>
          clear HB2
          obtain ⟨rfl, HB2⟩ := hrel
          go_wp2_with fail
          go_loopw [14] (fun i wx => i = .int .i64 0 ∧ Below w.heap.size w wx) (fun _ _ => 0)
          case atStart => exact ⟨rfl, HB2⟩
          case round =>
            clear HB2
            obtain ⟨rfl, HB2⟩ := hrel
            go_wp2_with fail
            go_ret
            exact ⟨rfl, HB2⟩

theorem infoflatRuleLists : (Tryd.prog.info? 105).map (fun i => (i.zero, i.size, i.bytes)) = some (some (.slice none 0 0), 1, 24) := by kernel_rfl
theorem undflatRuleLists : Tryd.prog.underlying 109 = some (.slice 105) := by kernel_rfl
set_option maxRecDepth 100000 in
theorem flatRuleLists_no (w : World) : Calls Tryd.prog 83 #[.slice none 0 0] w fun e w' => e = .returned (.bool true) ∧ Below w.heap.size w w' := by
  obtain ⟨j0, hj, hy0, hy1, hy2⟩ := info_parts infoflatRuleLists
  go_enter Tryd.func83, Tryd.ntmps83
  go_wp2_with fail
  go_loopw [3] (fun i wr => i = .int .i64 0 ∧ Below w.heap.size w wr) (fun _ _ => 0)
  case atStart => exact ⟨rfl, Below.refl _ _⟩
  case round =>
    obtain ⟨rfl, HB⟩ := hrel
    go_wp2_with (at_make; refine wpList_make_full _ rfl _ _ _ rfl w.heap.size 105 j0 (.slice none 0 0) 1 undflatRuleLists hj hy0 hy1 .i64 .i64 _ _ 0 rfl rfl rfl rfl (by omega) (by simp only [maxLen]; omega) HB.size ?_; intro w2 hown2 hg2)
    have HB2 : Below w.heap.size w w2 := HB.grown hg2 HB.size (by simp)
    clear hown2 hg2 HB
    clear hy0 hy1 hy2 hj
    go_loopw [6] (fun i wx => i = .int .i64 0 ∧ Below w.heap.size w wx) (fun _ _ => 0)
    case atStart => exact ⟨rfl, HB2⟩
    case round =>
      clear HB2
      obtain ⟨rfl, HB2⟩ := hrel
      go_wp2_with fail
      go_loopw [9] (fun i wx => i = .int .i64 0 ∧ Below w.heap.size w wx) (fun _ _ => 0)
      case atStart => exact ⟨rfl, HB2⟩
      case round =>
        clear HB2
        obtain ⟨rfl, HB2⟩ := hrel
        go_wp2_with fail
        go_loopw [11] (fun i wx => i = .int .i64 0 ∧ Below w.heap.size w wx) (fun _ _ => 0)
        case atStart => exact ⟨rfl, HB2⟩
        case round =>
          clear HB2
          obtain ⟨rfl, HB2⟩ := hrel
          go_wp2_with fail
          go_loopw [14] (fun i wx => i = .int .i64 0 ∧ Below w.heap.size w wx) (fun _ _ => 0)
          case atStart => exact ⟨rfl, HB2⟩
          case round =>
            clear HB2
            obtain ⟨rfl, HB2⟩ := hrel
            go_wp2_with fail
            go_ret
            exact ⟨rfl, HB2⟩
end Go.Proofs.YtjbkfhdbgphodaaDoor
