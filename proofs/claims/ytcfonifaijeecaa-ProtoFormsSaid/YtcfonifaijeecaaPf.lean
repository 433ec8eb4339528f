/-
  The statement 'ProtoForms': the Puts that come in, opened; the row.
-/
import Derived.Test.YtcfonifaijeecaaLf
import Derived.Test.YtcfonifaijeecaaLift
namespace Go.Proofs.Ytcfonifaijeecaa
open Go.ChangeShapes Go.WideShapes Go.ChangeAt Go.RowKit

theorem own : ownKnob Try.prog.godebug = none := by kernel_rfl
theorem laidOut : laidOutB Try.prog = true := by kernel_rfl
theorem cellsInt : Try.prog.cellsOf 3 = 1 := by kernel_rfl
theorem cellsBool : Try.prog.cellsOf 4 = 1 := by kernel_rfl
theorem cellsU64 : Try.prog.cellsOf 23 = 1 := by kernel_rfl
theorem cellsBytes : Try.prog.cellsOf 27 = 1 := by kernel_rfl
theorem cellsU8 : Try.prog.cellsOf 5 = 1 := by kernel_rfl
theorem bytesU8 : Try.prog.bytesOf 5 = 1 := by kernel_rfl
theorem cellsPut : Try.prog.cellsOf 31 = 4 := by kernel_rfl
theorem bytesPut : Try.prog.bytesOf 31 = 48 := by kernel_rfl

def PutOK (W : World) (p : PutV) : Prop := Rd W (.slice p.A p.b.length p.c) 1 p.b.length (bvs p.b) ∧ W64 p.n ∧ I64 p.num ∧ p.b.length ≤ 140737488351232
theorem w64_of {n : Int} (h : (Lit.int .u64 n).wf = true) : ∃ m : Nat, n = m ∧ W64 m := by
  simp [Lit.wf, IntKind.min, IntKind.max, IntKind.signed, IntKind.bits] at h
  exact ⟨n.toNat, by omega, by unfold W64; omega⟩
theorem i64_of {n : Int} (h : (Lit.int .i64 n).wf = true) : I64 n := by
  simp [Lit.wf, IntKind.min, IntKind.max, IntKind.signed, IntKind.bits] at h
  unfold I64
  omega

section
variable {H : Type} {enc : TypeId × Value → H} {W : World}
theorem put_read (n : Nat) (cs : List Value) (y : DataW H × List MemPlace) (h : DataW.trod enc Try.prog W 0 (fun _ => true) true n 31 cs = some y) :
    ∃ p : PutV, cs = p.cells ∧ ((∀ n ∈ y.1.weights Try.prog 31, n ≤ reachBytes) → PutOK W p) := by
  obtain ⟨xs, n', _, hy, hlen, hxl, hf⟩ := DataW.trod_struct Try.underlying31 h
  rw [cellsPut] at hlen
  match cs, hlen with
  | [c0, c1, c2, c3], _ =>
    match xs, hxl with
    | [y0, y1, y2, y3], _ =>
      have t0 : DataW.trod enc Try.prog W 0 (fun _ => true) true n' 3 [c0] = some y0 := by simpa [cellsInt] using hf 0 _ rfl
      have t1 : DataW.trod enc Try.prog W 0 (fun _ => true) true n' 4 [c1] = some y1 := by simpa [cellsBool] using hf 1 _ rfl
      have t2 : DataW.trod enc Try.prog W 0 (fun _ => true) true n' 23 [c2] = some y2 := by simpa [cellsU64] using hf 2 _ rfl
      have t3 : DataW.trod enc Try.prog W 0 (fun _ => true) true n' 27 [c3] = some y3 := by simpa [cellsBytes] using hf 3 _ rfl
      obtain ⟨num, h0, _, w0⟩ := DataW.trod_int Try.underlying3 t0
      obtain ⟨wh, h1, _⟩ := DataW.trod_bool Try.underlying4 t1
      obtain ⟨k, h2, _, w2⟩ := DataW.trod_int Try.underlying23 t2
      simp only [List.cons.injEq, and_true] at h0 h1 h2
      subst h0 h1 h2
      obtain ⟨m, rfl, hm⟩ := w64_of w2
      obtain ⟨A, len, cap, rfl⟩ : ∃ A len cap, c3 = .slice A len cap := by
        rcases DataW.trod_slice Try.underlying27 t3 with ⟨e, _⟩ | ⟨a, l, c, _, _, _, _, e, _⟩ <;> simp only [List.cons.injEq, and_true] at e <;> subst e <;> exact ⟨_, _, _, rfl⟩
      obtain ⟨l, rfl, hr, hs⟩ := open_bytes Try.underlying27 Try.underlying5 cellsU8 bytesU8 t3
      refine ⟨⟨num, wh, m, A, cap, l⟩, rfl, fun hw => ⟨hr, hm, i64_of w0, hs fun n hn => hw n ?_⟩⟩
      rw [hy]
      simp only [DataW.weights, Try.underlying31, List.map_cons, List.map_nil, DataW.weightsEach, List.mem_append]
      exact .inr (.inr (.inr (.inl hn)))
theorem open_puts {fuel : Nat} {a : Option Addr} {len cap : Nat} {x : DataW H × List MemPlace} (h : DataW.trod enc Try.prog W 0 (fun _ => true) true fuel 22 [.slice a len cap] = some x)
    (hw : ∀ n ∈ x.1.weights Try.prog 22, n ≤ reachBytes) : ∃ ps : List PutV, PutsAt W (.slice a len cap) ps := by
  obtain ⟨ps, rfl, hr, hk⟩ := open_rows PutV.cells (fun _ => rfl) (by decide) (PutOK W) Try.underlying22 cellsPut bytesPut put_read h
  exact ⟨ps, hr, fun p hp => (hk hw).1 p hp⟩
end

set_option maxRecDepth 100000 in
theorem forms_lifted (os : Os) (started : os.Started) (H : Type) (enc : TypeId × Value → H) :
    ReturnsInHanded {} Try.checked os 3 .any (Rows.protoFormsSpec.pre6 enc Try.prog Try.f3 Rows.protoFormsRow.domain false) (Rows.protoFormsSpec.post enc Try.prog Try.f3 false true false false) := by
  refine lift_law (C := Try.checked) own started (by kernel_rfl) Try.func3 rfl rfl (tb := 4) (by kernel_rfl) Try.underlying4 laidOut (by kernel_rfl) ?_
    (ChangeSpec.witness6 (enc := enc) (C := Try.checked) false ⟨#[], #[.slice none 0 0, .int .u64 0], []⟩ 8 (by kernel_rfl) (by kernel_rfl) (by kernel_rfl) (by kernel_rfl)) ?_
  · intro ds hds
    rw [Try.params3] at hds
    match ds, hds with
    | [d0, d1], _ => exact ⟨rfl, rfl, rfl⟩
  · intro W args ds p hT
    obtain ⟨hA, ⟨base, hok⟩, hsz⟩ := hT
    rw [Try.params3] at hA hok hsz
    obtain ⟨v0, v1, d0, d1, p0, p1, rfl, rfl, rfl, h0, h1⟩ := trodAll_two hA
    obtain ⟨a0, len0, cap0, rfl⟩ := okWide_slice Try.underlying22 (hok 0 22 v0 rfl rfl)
    obtain ⟨n, rfl, rfl, rfl, w1⟩ := open_int Try.underlying23 (hok 1 23 v1 rfl rfl) h1
    obtain ⟨m, rfl, hm⟩ := w64_of w1
    obtain ⟨fuel, hf⟩ := h0
    obtain ⟨ps, hps⟩ := open_puts (show DataW.trod enc Try.prog W 0 (fun _ => true) true fuel 22 [.slice a0 len0 cap0] = some (d0, p0) from hf) (fun n hn => by
      have := List.all_eq_true.1 hsz n (DataW.weights_mem_each (j := 0) rfl rfl n hn)
      simpa using this)
    exact forms_walk _ ps m W hm hps

theorem forms_over : Rows.protoFormsRow.holds Try.pinned (OpenSpec.ofChange Rows.protoFormsSpec) :=
  OpenClaim.holds_of_wide 3 Try.f3 rfl rfl rfl rfl rfl rfl rfl ⟨rfl, rfl, rfl, rfl, rfl⟩ rfl rfl rfl rfl rfl (by kernel_rfl) Try.func3 (by kernel_rfl)
    (of_decide_eq_true (by kernel_rfl)) (by unfold Func.isWrapper; first | (rw [if_pos (by decide +kernel)]; kernel_rfl) | (rw [if_neg (by decide +kernel)]; exact ⟨rfl, rfl⟩))
    (fun os started H enc _ => forms_lifted os started H enc)

/-- The statement. -/
theorem forms_proved : Rows.ProtoFormsSaid := forms_over
#print axioms forms_proved
end Go.Proofs.Ytcfonifaijeecaa
