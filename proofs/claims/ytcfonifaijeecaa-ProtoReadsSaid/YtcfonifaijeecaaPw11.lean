/-
  The walk of the program's Fields.
-/
import Derived.Test.YtcfonifaijeecaaVf
import Derived.Deep.LoopGhost
import Derived.BigQuiet
namespace Go.Proofs.Ytcfonifaijeecaa
open Go.RowKit

theorem tyF : RowTy Try.prog 43 53 4 48 := rowTy_of (z := .agg #[.int .i64 0, .bool false, .int .u64 0, .slice none 0 0]) (by kernel_rfl) (by kernel_rfl) (by kernel_rfl) (by decide)

/-- What holds ahead of each round: so many fields are read, so many bytes left; or there was an error. -/
def FieldsRel (w : World) (g : Nat) (A : Option Addr) (c : Nat) (l : List UInt8) (left : Nat) (v : Value) (wr : World) : Prop :=
  (∃ (xs : List FdL) (r : List UInt8) (B : Option Addr) (d : Nat) (A' : Option Addr) (c' : Nat), v = .slice B xs.length d ∧ left = r.length ∧ xs.length + r.length ≤ l.length ∧
    St w NoB wr (RdrC g A' r.length c' 0 (.row (.slice B xs.length d) 53 4 xs.length (cellsF xs) :: chunksF xs)) ∧ CutR A c l A' c' r ∧ fds l = (fds r).pre (xs.map FdL.f)) ∨
  (∃ (k n' : Nat) (B : Option Addr) (n d : Nat) (A' : Option Addr) (c' : Nat), v = .slice B n d ∧ left = 0 ∧ (k = 2 ∨ k = 3) ∧ St w NoB wr (RdrC g A' n' c' k []) ∧ fds l = .bad k)

set_option maxRecDepth 100000 in
set_option maxHeartbeats 800000 in
theorem fields_walk (w : World) (A : Option Addr) (c : Nat) (l : List UInt8) (hl : l.length ≤ 65536) (hr : Rd w (.slice A l.length c) 1 l.length (bvs l)) :
    Calls Try.prog 22 #[.slice A l.length c] w (ResF 53 w (fds l)) := by
  have hle : decide (65536 < (l.length : Int)) = false := by simp; omega
  have hS0 : St w NoB (w.alloc (.cells #[.slice A l.length c, .int .i64 0] 63)) (RdrC w.heap.size A l.length c 0 (.row (.slice none 0 0) 53 4 0 [] :: [])) := (((St.init w NoB).alloc #[.slice A l.length c, .int .i64 0] 63).row (Below.refl _ _) (World.ownsRow_nil _ _ _ _)).swap
  have HR := hide hr
  have HS := hide hS0
  clear hr hS0
  go_enter Try.func22, Try.ntmps22
  go_wp2_with fail
  go_loopg [6] (l.length + 1) (fun left v wr => ∃ k, left = k + 1 ∧ FieldsRel w w.heap.size A c l k v wr)
  case atStart => exact ⟨_, rfl, .inl ⟨[], l, none, 0, A, c, rfl, rfl, by simp, HS.out, fun _ h => h, (FsR.pre_nil _).symm⟩⟩
  case round =>
    obtain ⟨k0, rfl, hrel⟩ := hrel
    rcases hrel with ⟨xs, r, B, d, A', c', rfl, rfl, hxl, hS, hcr, hfd⟩ | ⟨k, n', B, n, d, A', c', rfl, rfl, hk, hS, hfd⟩
    · have hc0 : wr.cell? ⟨w.heap.size, 0, none⟩ = some (.slice A' r.length c') := hS.cell 0 rfl 0
      have hc1 : wr.cell? ⟨w.heap.size, 1, none⟩ = some (.int .i64 0) := hS.cell 0 rfl 1
      by_cases hr0 : r = []
      · subst hr0
        rw [fds_nil] at hfd
        have hd0 : decide ((0 : Int) < (([] : List UInt8).length : Int)) = false := rfl
        have HF := hide hfd
        have HX := hide hxl
        clear hfd hxl
        go_wp2_with fail
        go_ret2
        rw [HF.out]
        refine ⟨xs, B, d, rfl, by simp [FsR.pre], hS.tail⟩
      · have hpos : 0 < r.length := List.length_pos_iff.2 hr0
        have hd0 : decide ((0 : Int) < (r.length : Int)) = true := by simp; omega
        have F := field_walk w.heap.size A' c' r (by omega) (hcr.rdH HR.out.rdH) hS
        cases hf : fd r with
        | ok f r' =>
          have hlen := fd_len r f r' hf
          have HF := hide (show fds l = (fds r').pre ((xs.map FdL.f) ++ [f]) by rw [hfd, fds_ok r f r' hr0 hf, FsR.pre_pre])
          rw [hf] at F
          have FF := hide F
          have HX := hide hxl
          clear F hfd hS hf hxl
          unfold P0 at *
          go_wp2_with (first
            | (go_at_call 28; refine FF.out.mono ?_; rintro e w2 ⟨B2, d2, rfl, A2, a2, hS2, hr2⟩)
            | (at_builtin; refine wl_appendN rfl rfl tyF hS2 2 rfl rfl (us := [_, _, _, _]) rfl rfl ?_ ?_ (by decide) ?_; (intro u hu; simp only [List.mem_cons, List.not_mem_nil, or_false] at hu; rcases hu with rfl | rfl | rfl | rfl <;> rfl); (have := HX.out; omega); intro B3 d3 w3 hS3))
          go_roundg (r'.length + 1)
          case rel =>
            refine ⟨_, rfl, .inl ⟨xs ++ [⟨f, B2, d2⟩], r', B3, d3, A2, a2, by simp, rfl, ?_, ?_, hcr.trans hr2, ?_⟩⟩
            · have := HX.out
              simp only [List.length_append, List.length_singleton]
              omega
            · rw [cellsF_snoc, chunksF_snoc, List.length_append, List.length_singleton]
              exact St.swap12 hS3
            · rw [HF.out, List.map_append]
              rfl
          case measure => omega
        | bad k =>
          have hk := fd_bads r k hf
          have HF := hide (show fds l = .bad k by rw [hfd, fds_bad r k hr0 hf]; rfl)
          rw [hf] at F
          have FF := hide F
          have HX := hide hxl
          have HK := hide hk
          clear F hfd hS hf hxl hk
          unfold P0 at *
          go_wp2_with (first
            | (go_at_call 28; refine FF.out.mono ?_; rintro e w2 ⟨x1, x2, x3, B2, m2, d2, rfl, A2, n2, a2, hS2⟩)
            | (at_builtin; refine wl_appendN rfl rfl tyF hS2 1 rfl rfl (us := [_, _, _, _]) rfl rfl ?_ ?_ (by decide) ?_; (intro u hu; simp only [List.mem_cons, List.not_mem_nil, or_false] at hu; rcases hu with rfl | rfl | rfl | rfl <;> rfl); (have := HX.out; omega); intro B3 d3 w3 hS3))
          go_roundg 1
          case rel => exact ⟨_, rfl, .inr ⟨k, n2, B3, _, d3, A2, a2, rfl, rfl, HK.out, hS3.pickL [0] (by decide) rfl, HF.out⟩⟩
          case measure => omega
    · have hc0 : wr.cell? ⟨w.heap.size, 0, none⟩ = some (.slice A' n' c') := hS.cell 0 rfl 0
      have hc1 : wr.cell? ⟨w.heap.size, 1, none⟩ = some (.int .i64 (k : Int)) := hS.cell 0 rfl 1
      have hk1 : ((k : Int) == 0) = false := by rcases hk with rfl | rfl <;> rfl
      have hk2 : ((k : Int) != 0) = true := by rcases hk with rfl | rfl <;> rfl
      have HF := hide hfd
      clear hfd hk
      by_cases hn : n' = 0
      · subst hn
        go_wp2_with fail
        go_quiet (fail)
        go_wp2_with fail
        go_ret2
        rw [HF.out]
        exact ⟨rfl, (hS.drewN _).below⟩
      · have hd0 : decide ((0 : Int) < (n' : Int)) = true := by simp; omega
        go_wp2_with fail
        go_quiet (fail)
        go_wp2_with fail
        go_ret2
        rw [HF.out]
        exact ⟨rfl, (hS.drewN _).below⟩
end Go.Proofs.Ytcfonifaijeecaa
