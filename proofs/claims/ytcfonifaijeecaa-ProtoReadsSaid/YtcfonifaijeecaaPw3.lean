/-
  The walks of a Message's methods: tagged, Int, Raw, Bytes.
-/
import Derived.Test.YtcfonifaijeecaaPw2
import Derived.Deep.RegionLaw
import Derived.ChangeAlike
namespace Go.Proofs.Ytcfonifaijeecaa
open Go.RowKit

theorem tag_eq (num wire : Int) (h1 : 1 ≤ num) (h2 : num ≤ 100) (h3 : wire = 0 ∨ wire = 2) :
    bits .or .u64 (IntKind.u64.wrap (IntKind.u64.wrap num * 8)) (IntKind.u64.wrap wire) = ((8 * num.toNat + wire.toNat : Nat) : Int) := by
  simp only [IntKind.wrap_u64]
  obtain ⟨n, rfl⟩ := Int.eq_ofNat_of_zero_le (show 0 ≤ num from by omega)
  have e1 : (n : Int) % 18446744073709551616 * 8 % 18446744073709551616 = ((8 * n : Nat) : Int) := by omega
  have e2 : ∀ k, (8 * n) ||| k = 8 * n + k ∨ 8 ≤ k := fun k => by
    by_cases h : k < 8
    · exact .inl (nat_join 3 (8 * n) k (by omega) (by omega))
    · exact .inr (by omega)
  rcases h3 with rfl | rfl
  · have := u64_or_nat (8 * n) 0 (by omega) (by omega)
    rw [e1]
    exact this.trans (by simp)
  · have := u64_or_nat (8 * n) 2 (by omega) (by omega)
    rw [e1]
    refine this.trans ?_
    have := e2 2
    simp only [Int.toNat_natCast]
    rw [this.resolve_right (by omega)]
    rfl
theorem enVarint (args : Array Value) (w : World) : (callFunc 16 args).run Try.prog w = .ok (.enter 16 args) w := by kernel_rfl
set_option maxHeartbeats 800000 in
theorem tagged_any {w0 w : World} {M : Nat → Prop} {H : List Chunk} (g : Nat) (v : Value) (l : List UInt8) (num wire : Int) (h1 : 1 ≤ num) (h2 : num ≤ 100) (h3 : wire = 0 ∨ wire = 2) (hl : l.length ≤ 1000000)
    (hS : St w0 M w (.cells g #[v] 29 :: .row v 5 1 l.length (bvs l) :: H)) :
    Calls Try.prog 26 #[.pointer (some ⟨g, 0, none⟩), .int .i64 num, .int .i64 wire] w fun e w' => e = .returned (.tuple #[]) ∧
      ∃ v', St w0 M w' (.cells g #[v'] 29 :: .row v' 5 1 (l ++ vb (8 * num.toNat + wire.toNat)).length (bvs (l ++ vb (8 * num.toNat + wire.toNat))) :: H) := by
  have hc := hS.cell 0 rfl 0
  have hf := hS.free 0 rfl 0
  simp only [List.getElem?_toArray, List.getElem?_cons_zero] at hc
  have HT := hide (tag_eq num wire h1 h2 h3)
  have HL := hide hl
  have H1 := hide h1
  have H2 := hide h2
  have H3 := hide h3
  clear hl h3 h1 h2
  go_enter Try.func26, Try.ntmps26
  go_wp2_with fail
  go_region_law ((try simp only [Act.put, List.setIfInBounds_toArray, List.set_cons_zero, List.set_cons_succ, List.getElem_toArray, List.getElem_cons_succ, List.getElem_cons_zero]); first
    | (refine step_call rfl rfl enVarint (congrArg (fun x => [Value.int IntKind.u64 x]) HT.out) (varint_any (8 * num.toNat + wire.toNat) _ ?_) ?_; (have := H1.out; have := H2.out; have := H3.out; unfold W64; omega); rintro e w1 ⟨A1, c1, rfl, hb, ho⟩; refine ⟨_, rfl, ?_⟩; have hS1 := hS.drew.row hb ho; have hc1 : w1.cell? ⟨g, 0, none⟩ = some v := hS1.cell 1 rfl 0)
    | (refine step_append rfl rfl tyB hS1 2 rfl rfl rfl (hS1.rd 0 rfl) (one_bvs _) ?_ (by decide) ?_; (have := HL.out; have := (vb_len (8 * num.toNat + wire.toNat)).1; omega); intro A2 c2 w2 hS2; have hc2 : w2.cell? ⟨g, 0, none⟩ = some v := hS2.cell 1 rfl 0; have hf2 := hS2.free 1 rfl 0))
  all_goals (
    have hS3 := (hS2.setCell 1 rfl 0 (.slice A2 (l.length + (vb (8 * num.toNat + wire.toNat)).length) c2)).tail
    go_end0
    refine ⟨rfl, .slice A2 (l.length + (vb (8 * num.toNat + wire.toNat)).length) c2, ?_⟩
    rw [List.length_append, bvs_append]
    exact hS3)
end Go.Proofs.Ytcfonifaijeecaa
