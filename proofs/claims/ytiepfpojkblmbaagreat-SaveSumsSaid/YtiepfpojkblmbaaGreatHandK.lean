/- The pen (reader) over a duel of zeros: lists, ready, table, the whole. -/
import Derived.Test.YtiepfpojkblmbaaGreatHandJ
import Derived.Deep.RegionWith
namespace Go.Proofs.YtiepfpojkblmbaaGreat.HandK
set_option linter.unusedVariables false
set_option linter.unusedSimpArgs false
open Go.RowKit Go.Lib Go.Proofs.YtiepfpojkblmbaaGreatW.PrintWords Go.Proofs.YtiepfpojkblmbaaGreatW.PrintLast Go.Proofs.YtiepfpojkblmbaaGreatW.PrintMore Go.Proofs.YtiepfpojkblmbaaGreat.U Go.Proofs.YtiepfpojkblmbaaGreat.HandQ Go.Proofs.YtiepfpojkblmbaaGreat.HandA Go.Proofs.YtiepfpojkblmbaaGreat.HandD Go.Proofs.YtiepfpojkblmbaaGreat.HandJ
theorem na_small (a : Addr) (w : World) : (nilAhead 376 54 (.pointer (some a)) "joust/save.small").run Tryz.prog w = .ok (some false) w := by kernel_rfl
theorem me_small (a : Addr) (w : World) : (method 376 54 (.pointer (some a)) "joust/save.small").run Tryz.prog w = .ok (109, .pointer (some a)) w := by kernel_rfl
theorem na_number (a : Addr) (w : World) : (nilAhead 376 54 (.pointer (some a)) "joust/save.number").run Tryz.prog w = .ok (some false) w := by kernel_rfl
theorem me_number (a : Addr) (w : World) : (method 376 54 (.pointer (some a)) "joust/save.number").run Tryz.prog w = .ok (108, .pointer (some a)) w := by kernel_rfl
theorem na_truth (a : Addr) (w : World) : (nilAhead 376 54 (.pointer (some a)) "joust/save.truth").run Tryz.prog w = .ok (some false) w := by kernel_rfl
theorem me_truth (a : Addr) (w : World) : (method 376 54 (.pointer (some a)) "joust/save.truth").run Tryz.prog w = .ok (111, .pointer (some a)) w := by kernel_rfl
theorem na_count (a : Addr) (w : World) : (nilAhead 376 54 (.pointer (some a)) "joust/save.count").run Tryz.prog w = .ok (some false) w := by kernel_rfl
theorem me_count (a : Addr) (w : World) : (method 376 54 (.pointer (some a)) "joust/save.count").run Tryz.prog w = .ok (106, .pointer (some a)) w := by kernel_rfl
theorem na_kinds (a : Addr) (w : World) : (nilAhead 376 54 (.pointer (some a)) "joust/save.kinds").run Tryz.prog w = .ok (some false) w := by kernel_rfl
theorem me_kinds (a : Addr) (w : World) : (method 376 54 (.pointer (some a)) "joust/save.kinds").run Tryz.prog w = .ok (107, .pointer (some a)) w := by kernel_rfl
set_option maxHeartbeats 1000000 in
set_option maxRecDepth 100000 in
theorem each11 {p D : Nat} {W0 W : World} {m : Nat} (h : Zr p D W0 W m) (i : Nat) (hi : Z[i]? = some (.slice none 0 0)) (fv : Value) :
    Calls Tryz.prog 11 #[(.iface 54 (.pointer (some ⟨p, 0, none⟩))), .pointer (some ⟨D, i, none⟩), fv] W fun e w' => e = .returned (.tuple #[]) ∧ Zr p D W0 w' (m - 1) := by
  have n_count := na_count
  have m_count := me_count
  have hc := (blk_cell h.dz i).trans hi
  have HI := Aside0.mk hi
  have HZ := Aside0.mk h
  clear h hi
  go_enter Tryz.func11, Tryz.ntmps11
  go_wp2_with fail
  go_region_with (go_at_call 106; (with_reducible refine Calls.mono (HZ.out.drew.count) ?_); rintro e_ w_ ⟨rfl, h_⟩; have HZ2 := Aside0.mk h_; have hc2 := (blk_cell h_.dz i).trans HI.out; clear h_)
  all_goals
    go_wp2_with fail
    go_loopg [31] 1 (fun g s31 wr => s31 = .int .i64 0 ∧ wr = w_)
    case atStart => exact ⟨rfl, rfl⟩
    case round =>
      obtain ⟨rfl, rfl⟩ := hrel
      go_wp2_with fail
      refine bodyPost_end (results_none rfl _ _ _) rfl ?_
      exact ⟨rfl, HZ2.out⟩
set_option maxHeartbeats 1000000 in
set_option maxRecDepth 100000 in
theorem each13 {p D : Nat} {W0 W : World} {m : Nat} (h : Zr p D W0 W m) (i : Nat) (hi : Z[i]? = some (.slice none 0 0)) (fv : Value) :
    Calls Tryz.prog 13 #[(.iface 54 (.pointer (some ⟨p, 0, none⟩))), .pointer (some ⟨D, i, none⟩), fv] W fun e w' => e = .returned (.tuple #[]) ∧ Zr p D W0 w' (m - 1) := by
  have n_count := na_count
  have m_count := me_count
  have hc := (blk_cell h.dz i).trans hi
  have HI := Aside0.mk hi
  have HZ := Aside0.mk h
  clear h hi
  go_enter Tryz.func13, Tryz.ntmps13
  go_wp2_with fail
  go_region_with (go_at_call 106; (with_reducible refine Calls.mono (HZ.out.drew.count) ?_); rintro e_ w_ ⟨rfl, h_⟩; have HZ2 := Aside0.mk h_; have hc2 := (blk_cell h_.dz i).trans HI.out; clear h_)
  all_goals
    go_wp2_with fail
    go_loopg [31] 1 (fun g s31 wr => s31 = .int .i64 0 ∧ wr = w_)
    case atStart => exact ⟨rfl, rfl⟩
    case round =>
      obtain ⟨rfl, rfl⟩ := hrel
      go_wp2_with fail
      refine bodyPost_end (results_none rfl _ _ _) rfl ?_
      exact ⟨rfl, HZ2.out⟩
set_option maxHeartbeats 1000000 in
set_option maxRecDepth 100000 in
theorem each15 {p D : Nat} {W0 W : World} {m : Nat} (h : Zr p D W0 W m) (i : Nat) (hi : Z[i]? = some (.slice none 0 0)) (fv : Value) :
    Calls Tryz.prog 15 #[(.iface 54 (.pointer (some ⟨p, 0, none⟩))), .pointer (some ⟨D, i, none⟩), fv] W fun e w' => e = .returned (.tuple #[]) ∧ Zr p D W0 w' (m - 1) := by
  have n_count := na_count
  have m_count := me_count
  have hc := (blk_cell h.dz i).trans hi
  have HI := Aside0.mk hi
  have HZ := Aside0.mk h
  clear h hi
  go_enter Tryz.func15, Tryz.ntmps15
  go_wp2_with fail
  go_region_with (go_at_call 106; (with_reducible refine Calls.mono (HZ.out.drew.count) ?_); rintro e_ w_ ⟨rfl, h_⟩; have HZ2 := Aside0.mk h_; have hc2 := (blk_cell h_.dz i).trans HI.out; clear h_)
  all_goals
    go_wp2_with fail
    go_loopg [31] 1 (fun g s31 wr => s31 = .int .i64 0 ∧ wr = w_)
    case atStart => exact ⟨rfl, rfl⟩
    case round =>
      obtain ⟨rfl, rfl⟩ := hrel
      go_wp2_with fail
      refine bodyPost_end (results_none rfl _ _ _) rfl ?_
      exact ⟨rfl, HZ2.out⟩
set_option maxHeartbeats 1000000 in
set_option maxRecDepth 100000 in
theorem each17 {p D : Nat} {W0 W : World} {m : Nat} (h : Zr p D W0 W m) (i : Nat) (hi : Z[i]? = some (.slice none 0 0)) (fv : Value) :
    Calls Tryz.prog 17 #[(.iface 54 (.pointer (some ⟨p, 0, none⟩))), .pointer (some ⟨D, i, none⟩), fv] W fun e w' => e = .returned (.tuple #[]) ∧ Zr p D W0 w' (m - 1) := by
  have n_count := na_count
  have m_count := me_count
  have hc := (blk_cell h.dz i).trans hi
  have HI := Aside0.mk hi
  have HZ := Aside0.mk h
  clear h hi
  go_enter Tryz.func17, Tryz.ntmps17
  go_wp2_with fail
  go_region_with (go_at_call 106; (with_reducible refine Calls.mono (HZ.out.drew.count) ?_); rintro e_ w_ ⟨rfl, h_⟩; have HZ2 := Aside0.mk h_; have hc2 := (blk_cell h_.dz i).trans HI.out; clear h_)
  all_goals
    go_wp2_with fail
    go_loopg [31] 1 (fun g s31 wr => s31 = .int .i64 0 ∧ wr = w_)
    case atStart => exact ⟨rfl, rfl⟩
    case round =>
      obtain ⟨rfl, rfl⟩ := hrel
      go_wp2_with fail
      refine bodyPost_end (results_none rfl _ _ _) rfl ?_
      exact ⟨rfl, HZ2.out⟩
set_option maxHeartbeats 1000000 in
set_option maxRecDepth 100000 in
theorem each19 {p D : Nat} {W0 W : World} {m : Nat} (h : Zr p D W0 W m) (i : Nat) (hi : Z[i]? = some (.slice none 0 0)) (fv : Value) :
    Calls Tryz.prog 19 #[(.iface 54 (.pointer (some ⟨p, 0, none⟩))), .pointer (some ⟨D, i, none⟩), fv] W fun e w' => e = .returned (.tuple #[]) ∧ Zr p D W0 w' (m - 1) := by
  have n_count := na_count
  have m_count := me_count
  have hc := (blk_cell h.dz i).trans hi
  have HI := Aside0.mk hi
  have HZ := Aside0.mk h
  clear h hi
  go_enter Tryz.func19, Tryz.ntmps19
  go_wp2_with fail
  go_region_with (go_at_call 106; (with_reducible refine Calls.mono (HZ.out.drew.count) ?_); rintro e_ w_ ⟨rfl, h_⟩; have HZ2 := Aside0.mk h_; have hc2 := (blk_cell h_.dz i).trans HI.out; clear h_)
  all_goals
    go_wp2_with fail
    go_loopg [31] 1 (fun g s31 wr => s31 = .int .i64 0 ∧ wr = w_)
    case atStart => exact ⟨rfl, rfl⟩
    case round =>
      obtain ⟨rfl, rfl⟩ := hrel
      go_wp2_with fail
      refine bodyPost_end (results_none rfl _ _ _) rfl ?_
      exact ⟨rfl, HZ2.out⟩
set_option maxHeartbeats 4000000 in
set_option maxRecDepth 100000 in
theorem ready {p D : Nat} {W0 W : World} {m : Nat} (h : Zr p D W0 W m) :
    Calls Tryz.prog 16 #[(.iface 54 (.pointer (some ⟨p, 0, none⟩))), .pointer (some ⟨D, 26, none⟩)] W fun e w' => e = .returned (.tuple #[]) ∧ Zr p D W0 w' (m - 4) := by
  have n_small := na_small
  have m_small := me_small
  have n_number := na_number
  have m_number := me_number
  have n_truth := na_truth
  have m_truth := me_truth
  have HZ := Aside0.mk h
  clear h
  go_enter Tryz.func16, Tryz.ntmps16
  go_wp2_with fail
  go_region_with (go_at_call 109; refine Calls.mono (HZ.out.drew.small _ (by rfl)) ?_; rintro e_ w_ ⟨rfl, h_⟩; have HZ := Aside0.mk h_; clear h_)
  go_wp2_with fail
  go_region_with (go_at_call 108; refine Calls.mono (HZ.out.drew.num _ (by rfl)) ?_; rintro e_ w_ ⟨rfl, h_⟩; have HZ := Aside0.mk h_; clear h_)
  go_wp2_with fail
  go_region_with (go_at_call 108; refine Calls.mono (HZ.out.drew.num _ (by rfl)) ?_; rintro e_ w_ ⟨rfl, h_⟩; have HZ := Aside0.mk h_; clear h_)
  go_wp2_with fail
  go_region_with (go_at_call 111; refine Calls.mono (HZ.out.drew.truth _ (by rfl)) ?_; rintro e_ w_ ⟨rfl, h_⟩; have HZ := Aside0.mk h_; clear h_)
  go_wp2_with fail
  refine bodyPost_end (results_none rfl _ _ _) rfl ?_
  exact ⟨rfl, HZ.out⟩
set_option maxHeartbeats 4000000 in
set_option maxRecDepth 100000 in
theorem table {p D : Nat} {W0 W : World} {m : Nat} (h : Zr p D W0 W m) :
    Calls Tryz.prog 10 #[(.iface 54 (.pointer (some ⟨p, 0, none⟩))), .pointer (some ⟨D, 0, none⟩)] W fun e w' => e = .returned (.tuple #[]) ∧ Zr p D W0 w' (m - 10) := by
  have n_small := na_small
  have m_small := me_small
  have n_number := na_number
  have m_number := me_number
  have n_truth := na_truth
  have m_truth := me_truth
  have n_kinds := na_kinds
  have m_kinds := me_kinds
  have HZ := Aside0.mk h
  clear h
  go_enter Tryz.func10, Tryz.ntmps10
  go_wp2_with fail
  go_region_with (go_at_call 107; refine Calls.mono (HZ.out.drew.kinds _ (by rfl)) ?_; rintro e_ w_ ⟨rfl, h_⟩; have HZ := Aside0.mk h_; clear h_)
  go_wp2_with (first | (go_at_call 19; refine Calls.mono (each19 HZ.out _ (by rfl) _) ?_; rintro e_ w_ ⟨rfl, h_⟩; have HZ := Aside0.mk h_; clear h_))
  go_region_with (go_at_call 108; refine Calls.mono (HZ.out.drew.num _ (by rfl)) ?_; rintro e_ w_ ⟨rfl, h_⟩; have HZ := Aside0.mk h_; clear h_)
  go_wp2_with fail
  go_region_with (go_at_call 108; refine Calls.mono (HZ.out.drew.num _ (by rfl)) ?_; rintro e_ w_ ⟨rfl, h_⟩; have HZ := Aside0.mk h_; clear h_)
  go_wp2_with fail
  go_region_with (go_at_call 108; refine Calls.mono (HZ.out.drew.num _ (by rfl)) ?_; rintro e_ w_ ⟨rfl, h_⟩; have HZ := Aside0.mk h_; clear h_)
  go_wp2_with fail
  go_region_with (go_at_call 109; refine Calls.mono (HZ.out.drew.small _ (by rfl)) ?_; rintro e_ w_ ⟨rfl, h_⟩; have HZ := Aside0.mk h_; clear h_)
  go_wp2_with fail
  go_region_with (go_at_call 108; refine Calls.mono (HZ.out.drew.num _ (by rfl)) ?_; rintro e_ w_ ⟨rfl, h_⟩; have HZ := Aside0.mk h_; clear h_)
  go_wp2_with (first | (go_at_call 13; refine Calls.mono (each13 HZ.out _ (by rfl) _) ?_; rintro e_ w_ ⟨rfl, h_⟩; have HZ := Aside0.mk h_; clear h_))
  go_region_with (go_at_call 111; refine Calls.mono (HZ.out.drew.truth _ (by rfl)) ?_; rintro e_ w_ ⟨rfl, h_⟩; have HZ := Aside0.mk h_; clear h_)
  go_wp2_with fail
  go_region_with (go_at_call 111; refine Calls.mono (HZ.out.drew.truth _ (by rfl)) ?_; rintro e_ w_ ⟨rfl, h_⟩; have HZ := Aside0.mk h_; clear h_)
  go_wp2_with fail
  refine bodyPost_end (results_none rfl _ _ _) rfl ?_
  exact ⟨rfl, HZ.out⟩
set_option maxHeartbeats 4000000 in
set_option maxRecDepth 100000 in
theorem whole {p D : Nat} {W0 W : World} {m : Nat} (h : Zr p D W0 W m) :
    Calls Tryz.prog 9 #[(.iface 54 (.pointer (some ⟨p, 0, none⟩))), .pointer (some ⟨D, 0, none⟩)] W fun e w' => e = .returned (.tuple #[]) ∧ Zr p D W0 w' (m - 37) := by
  have n_small := na_small
  have m_small := me_small
  have n_number := na_number
  have m_number := me_number
  have n_truth := na_truth
  have m_truth := me_truth
  have HZ := Aside0.mk h
  clear h
  go_enter Tryz.func9, Tryz.ntmps9
  go_wp2_with (first | (go_at_call 10; refine Calls.mono (table HZ.out) ?_; rintro e_ w_ ⟨rfl, h_⟩; have HZ := Aside0.mk h_; clear h_))
  go_region_with (go_at_call 109; refine Calls.mono (HZ.out.drew.small _ (by rfl)) ?_; rintro e_ w_ ⟨rfl, h_⟩; have HZ := Aside0.mk h_; clear h_)
  go_wp2_with fail
  go_region_with (go_at_call 109; refine Calls.mono (HZ.out.drew.small _ (by rfl)) ?_; rintro e_ w_ ⟨rfl, h_⟩; have HZ := Aside0.mk h_; clear h_)
  go_wp2_with fail
  go_region_with (go_at_call 111; refine Calls.mono (HZ.out.drew.truth _ (by rfl)) ?_; rintro e_ w_ ⟨rfl, h_⟩; have HZ := Aside0.mk h_; clear h_)
  go_wp2_with fail
  go_region_with (go_at_call 111; refine Calls.mono (HZ.out.drew.truth _ (by rfl)) ?_; rintro e_ w_ ⟨rfl, h_⟩; have HZ := Aside0.mk h_; clear h_)
  go_wp2_with (first | (go_at_call 11; refine Calls.mono (each11 HZ.out _ (by rfl) _) ?_; rintro e_ w_ ⟨rfl, h_⟩; have HZ := Aside0.mk h_; clear h_) | (go_at_call 13; refine Calls.mono (each13 HZ.out _ (by rfl) _) ?_; rintro e_ w_ ⟨rfl, h_⟩; have HZ := Aside0.mk h_; clear h_) | (go_at_call 15; refine Calls.mono (each15 HZ.out _ (by rfl) _) ?_; rintro e_ w_ ⟨rfl, h_⟩; have HZ := Aside0.mk h_; clear h_))
  go_region_with (go_at_call 109; refine Calls.mono (HZ.out.drew.small _ (by rfl)) ?_; rintro e_ w_ ⟨rfl, h_⟩; have HZ := Aside0.mk h_; clear h_)
  go_wp2_with fail
  go_region_with (go_at_call 108; refine Calls.mono (HZ.out.drew.num _ (by rfl)) ?_; rintro e_ w_ ⟨rfl, h_⟩; have HZ := Aside0.mk h_; clear h_)
  go_wp2_with fail
  go_region_with (go_at_call 111; refine Calls.mono (HZ.out.drew.truth _ (by rfl)) ?_; rintro e_ w_ ⟨rfl, h_⟩; have HZ := Aside0.mk h_; clear h_)
  go_wp2_with fail
  go_region_with (go_at_call 111; refine Calls.mono (HZ.out.drew.truth _ (by rfl)) ?_; rintro e_ w_ ⟨rfl, h_⟩; have HZ := Aside0.mk h_; clear h_)
  go_wp2_with fail
  go_region_with (go_at_call 108; refine Calls.mono (HZ.out.drew.num _ (by rfl)) ?_; rintro e_ w_ ⟨rfl, h_⟩; have HZ := Aside0.mk h_; clear h_)
  go_wp2_with fail
  go_region_with (go_at_call 111; refine Calls.mono (HZ.out.drew.truth _ (by rfl)) ?_; rintro e_ w_ ⟨rfl, h_⟩; have HZ := Aside0.mk h_; clear h_)
  go_wp2_with fail
  go_region_with (go_at_call 108; refine Calls.mono (HZ.out.drew.num _ (by rfl)) ?_; rintro e_ w_ ⟨rfl, h_⟩; have HZ := Aside0.mk h_; clear h_)
  go_wp2_with fail
  go_region_with (go_at_call 108; refine Calls.mono (HZ.out.drew.num _ (by rfl)) ?_; rintro e_ w_ ⟨rfl, h_⟩; have HZ := Aside0.mk h_; clear h_)
  go_wp2_with (first | (go_at_call 17; refine Calls.mono (each17 HZ.out _ (by rfl) _) ?_; rintro e_ w_ ⟨rfl, h_⟩; have HZ := Aside0.mk h_; clear h_) | (go_at_call 16; refine Calls.mono (ready HZ.out) ?_; rintro e_ w_ ⟨rfl, h_⟩; have HZ := Aside0.mk h_; clear h_))
  go_region_with (go_at_call 111; refine Calls.mono (HZ.out.drew.truth _ (by rfl)) ?_; rintro e_ w_ ⟨rfl, h_⟩; have HZ := Aside0.mk h_; clear h_)
  go_wp2_with fail
  go_region_with (go_at_call 108; refine Calls.mono (HZ.out.drew.num _ (by rfl)) ?_; rintro e_ w_ ⟨rfl, h_⟩; have HZ := Aside0.mk h_; clear h_)
  go_wp2_with fail
  go_region_with (go_at_call 109; refine Calls.mono (HZ.out.drew.small _ (by rfl)) ?_; rintro e_ w_ ⟨rfl, h_⟩; have HZ := Aside0.mk h_; clear h_)
  go_wp2_with fail
  go_region_with (go_at_call 108; refine Calls.mono (HZ.out.drew.num _ (by rfl)) ?_; rintro e_ w_ ⟨rfl, h_⟩; have HZ := Aside0.mk h_; clear h_)
  go_wp2_with fail
  go_region_with (go_at_call 109; refine Calls.mono (HZ.out.drew.small _ (by rfl)) ?_; rintro e_ w_ ⟨rfl, h_⟩; have HZ := Aside0.mk h_; clear h_)
  go_wp2_with fail
  go_region_with (go_at_call 109; refine Calls.mono (HZ.out.drew.small _ (by rfl)) ?_; rintro e_ w_ ⟨rfl, h_⟩; have HZ := Aside0.mk h_; clear h_)
  go_wp2_with fail
  refine bodyPost_end (results_none rfl _ _ _) rfl ?_
  exact ⟨rfl, HZ.out⟩
end Go.Proofs.YtiepfpojkblmbaaGreat.HandK
