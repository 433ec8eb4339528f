/-
  How terms that came in are opened.
-/
import Derived.Test.YthpioncehigoaaaFt
import Derived.Test.YthpioncehigoaaaOq
set_option linter.unusedSimpArgs false
set_option linter.unusedVariables false
namespace Go.Proofs.Ythpioncehigoaaa
open Go.ChangeShapes Go.WideShapes Go.ChangeAt Go.RowKit Go.Deep

section
variable {H : Type} {enc : TypeId × Value → H} {P : Program} {W : World}
/-- A slice that came in whose elements are read as the cells 'f p', each with less fuel. -/
theorem open_rowsF {α : Type} (f : α → List Value) {size bytes : Nat} (hf : ∀ p, (f p).length = size) (hpos : 0 < size) (OK : α → Prop) {t e : TypeId} {fuel : Nat} {a : Option Addr} {len cap : Nat} {x : DataW H × List MemPlace}
    (ht : P.underlying t = some (.slice e)) (hC : P.cellsOf e = size) (hB : P.bytesOf e = bytes)
    (hread : ∀ n cs y, n < fuel → DataW.trod enc P W 0 (fun _ => true) true n e cs = some y → ∃ p, cs = f p ∧ ((∀ n ∈ y.1.weights P e, n ≤ reachBytes) → OK p))
    (h : DataW.trod enc P W 0 (fun _ => true) true fuel t [.slice a len cap] = some x) :
    ∃ ps : List α, ps.length = len ∧ Rd W (.slice a len cap) size len (ps.flatMap f) ∧ ((∀ n ∈ x.1.weights P t, n ≤ reachBytes) → (∀ p ∈ ps, OK p) ∧ len * bytes ≤ 140737488351232) := by
  rcases DataW.trod_slice ht h with ⟨hcs, hx⟩ | ⟨ad, len', cap', elems, more, n, hfu, hcs, hx, _, hl, hm, hlen, hel, hmore, _⟩
  · simp only [List.cons.injEq, and_true, Value.slice.injEq] at hcs
    obtain ⟨rfl, rfl, rfl⟩ := hcs
    exact ⟨[], rfl, rd_nil W size, fun _ => ⟨(fun p hp => by cases hp), by omega⟩⟩
  · simp only [List.cons.injEq, and_true, Value.slice.injEq] at hcs
    obtain ⟨rfl, rfl, rfl⟩ := hcs
    obtain ⟨hml, _⟩ := hmore rfl
    have key : ∀ k, k ≤ len → ∃ ps : List α, ps.length = k ∧ ∀ i p, ps[i]? = some p → (∀ j u, (f p)[j]? = some u → W.cell? ((ad.add (i * size)).add j) = some u) ∧ ∃ y ∈ elems, ((∀ n ∈ y.1.weights P e, n ≤ reachBytes) → OK p) := by
      intro k
      induction k with
      | zero => exact fun _ => ⟨[], rfl, fun i p hp => by simp at hp⟩
      | succ k ih =>
        intro hk
        obtain ⟨ps, hps, hall⟩ := ih (by omega)
        have hk' : k < elems.length := by omega
        have h0 := hel k (by omega)
        rw [List.getElem?_eq_getElem hk', Option.bind_eq_some_iff] at h0
        obtain ⟨cs', h1, h2⟩ := h0
        obtain ⟨p, rfl, hok⟩ := hread n cs' _ (by omega) h2
        rw [hC] at h1
        obtain ⟨_, _, hat⟩ := World.cells?_some h1
        refine ⟨ps ++ [p], by simp [hps], fun i q hq => ?_⟩
        rw [List.getElem?_append] at hq
        split at hq
        · exact hall i q hq
        · have hik : i = k := by
            have := (List.getElem?_eq_some_iff.1 hq).1
            simp at this
            omega
          subst hik
          have hpq : p = q := by
            rw [hps, Nat.sub_self] at hq
            simpa using hq
          subst hpq
          refine ⟨fun j u hu => ?_, _, List.getElem_mem hk', hok⟩
          have hj : j < size := by rw [← hf p]; exact (List.getElem?_eq_some_iff.1 hu).1
          rw [hat j hj, hu]
    obtain ⟨ps, hps, hall⟩ := key len (Nat.le_refl _)
    have hadd : ∀ i j : Nat, (ad.add i).add j = ad.add (i + j) := by
      intro i j
      unfold Addr.add
      by_cases hi : i = 0 <;> by_cases hj : j = 0 <;> simp [hi, hj, Nat.add_assoc]
    have hcell : ∀ q u, (ps.flatMap f)[q]? = some u → W.cell? (ad.add q) = some u := by
      intro q u hu
      have hq : q < len * size := by
        have := (List.getElem?_eq_some_iff.1 hu).1
        rwa [flat_len f size hf, hps] at this
      have hd : q / size < ps.length := by rw [hps]; exact Nat.div_lt_of_lt_mul (by rw [Nat.mul_comm]; exact hq)
      have hr : q % size < size := Nat.mod_lt _ hpos
      have hqe : q / size * size + q % size = q := by rw [Nat.mul_comm]; exact Nat.div_add_mod q size
      have h3 := hall (q / size) ps[q / size] (List.getElem?_eq_getElem hd)
      have h4 := flat_at f size hf ps (q / size) (q % size) ps[q / size] (List.getElem?_eq_getElem hd) hr
      rw [hqe, hu] at h4
      have h5 := h3.1 (q % size) u h4.symm
      rwa [hadd, hqe] at h5
    refine ⟨ps, hps, ⟨some ad, cap, rfl, by rw [flat_len f size hf, hps], hl, hm, (fun hn => by cases hn), fun b o sp hA => ?_⟩, fun hw => ⟨fun p hp => ?_, ?_⟩⟩
    · injection hA with hA
      subst hA
      have hsp : ∀ q u, (ps.flatMap f)[q]? = some u → sp = none := fun q u hu => by
        have hlt := (List.getElem?_eq_some_iff.1 hu).1
        have h0 := hcell 0 _ (List.getElem?_eq_getElem (by omega))
        simpa [Addr.add] using World.cell?_spot h0
      refine ⟨fun hn => hsp 0 _ (List.getElem?_eq_getElem (by rw [flat_len f size hf, hps]; omega)), fun j u hu => ?_⟩
      have hc := hcell j u hu
      obtain rfl := hsp j u hu
      rwa [Addr.add_lit] at hc
    · obtain ⟨i, hlt, rfl⟩ := List.getElem_of_mem hp
      obtain ⟨_, y, hy, hok⟩ := hall i _ (List.getElem?_eq_getElem hlt)
      refine hok fun n hn => hw n ?_
      rw [hx]
      simp only [DataW.weights, ht, List.mem_cons, List.mem_append]
      exact .inr (.inl (weightsAll_mem (List.mem_map.2 ⟨y, hy, rfl⟩) hn))
    · have := hw ((elems.length + more.length) * bytes) (by rw [hx]; simp [DataW.weights, ht, hB])
      simp only [reachBytes] at this
      exact Nat.le_trans (Nat.mul_le_mul_right bytes (by rw [hlen]; exact Nat.le_add_right len more.length)) this
end
theorem cellsTm : Try.prog.cellsOf 62 = 4 := by kernel_rfl
theorem bytesTm : Try.prog.bytesOf 62 = 56 := by kernel_rfl
theorem cellsInt : Try.prog.cellsOf 3 = 1 := by kernel_rfl
theorem cellsInt64 : Try.prog.cellsOf 2 = 1 := by kernel_rfl
theorem cellsStr : Try.prog.cellsOf 9 = 1 := by kernel_rfl
theorem cellsTms : Try.prog.cellsOf 22 = 1 := by kernel_rfl
section
variable {H : Type} {enc : TypeId × Value → H} {W : World}
set_option maxRecDepth 100000 in
theorem tm_read : ∀ (N n : Nat) (cs : List Value) (y : DataW H × List MemPlace), n < N → DataW.trod enc Try.prog W 0 (fun _ => true) true n 62 cs = some y →
    ∃ t : Tm, cs = t.cells ∧ ((∀ n ∈ y.1.weights Try.prog 62, n ≤ reachBytes) → TmOK W t)
  | 0, n, _, _, hn, _ => absurd hn (Nat.not_lt_zero _)
  | N + 1, n, cs, y, hn, h => by
    obtain ⟨xs, n', hn', hy, hlen, hxl, hf⟩ := DataW.trod_struct Try.underlying62 h
    rw [cellsTm] at hlen
    match cs, hlen with
    | [c0, c1, c2, c3], _ =>
      match xs, hxl with
      | [y0, y1, y2, y3], _ =>
        have t0 : DataW.trod enc Try.prog W 0 (fun _ => true) true n' 3 [c0] = some y0 := by simpa [cellsInt] using hf 0 _ rfl
        have t1 : DataW.trod enc Try.prog W 0 (fun _ => true) true n' 2 [c1] = some y1 := by simpa [cellsInt64] using hf 1 _ rfl
        have t2 : DataW.trod enc Try.prog W 0 (fun _ => true) true n' 9 [c2] = some y2 := by simpa [cellsStr] using hf 2 _ rfl
        have t3 : DataW.trod enc Try.prog W 0 (fun _ => true) true n' 22 [c3] = some y3 := by simpa [cellsTms] using hf 3 _ rfl
        obtain ⟨k, h0, _, w0⟩ := DataW.trod_int Try.underlying3 t0
        obtain ⟨z, h1, _, w1⟩ := DataW.trod_int Try.underlying2 t1
        obtain ⟨s, h2, _, w2⟩ := DataW.trod_string Try.underlying9 t2
        simp only [List.cons.injEq, and_true] at h0 h1 h2
        subst h0 h1 h2
        obtain ⟨A, len, cap, rfl⟩ : ∃ A len cap, c3 = .slice A len cap := by
          rcases DataW.trod_slice Try.underlying22 t3 with ⟨e, _⟩ | ⟨a, l, c, _, _, _, _, e, _⟩ <;> simp only [List.cons.injEq, and_true] at e <;> subst e <;> exact ⟨_, _, _, rfl⟩
        obtain ⟨l, rfl, hr, hk⟩ := open_rowsF Tm.cells Tm.cells_length (by decide) (TmOK W) Try.underlying22 cellsTm bytesTm (fun m cs' y' hm hy' => tm_read N m cs' y' (by omega) hy') t3
        have es : (⟨s.data.toList.toArray⟩ : ByteArray) = s := by cases s; rfl
        refine ⟨.mk k z s.data.toList A cap l, ?_, fun hw => ?_⟩
        · show _ = [_, _, Value.string (strOf s.data.toList), _]
          rw [strOf_eq, es]
          rfl
        · have hw3 : ∀ n ∈ y3.1.weights Try.prog 22, n ≤ reachBytes := fun n hn => hw n (by
            rw [hy]
            simp only [DataW.weights, Try.underlying62, List.map_cons, List.map_nil, DataW.weightsEach, List.mem_append]
            exact .inr (.inr (.inr (.inl hn))))
          obtain ⟨h4, h5⟩ := hk hw3
          refine .mk _ hr ⟨i64_of w0, i64_of w1, ?_, ?_⟩ h4
          · show s.data.toList.length ≤ _
            rw [Array.length_toList]
            have : s.size ≤ maxLen := w2
            unfold maxLen at this
            exact this
          · show l.length ≤ _
            omega
set_option maxRecDepth 100000 in
theorem open_terms {fuel : Nat} {a : Option Addr} {len cap : Nat} {x : DataW H × List MemPlace} (h : DataW.trod enc Try.prog W 0 (fun _ => true) true fuel 22 [.slice a len cap] = some x)
    (hw : ∀ n ∈ x.1.weights Try.prog 22, n ≤ reachBytes) : ∃ l : List Tm, len = l.length ∧ TmsAt W (.slice a len cap) l ∧ l.length ≤ 140737488351232 := by
  obtain ⟨l, rfl, hr, hk⟩ := open_rowsF Tm.cells Tm.cells_length (by decide) (TmOK W) Try.underlying22 cellsTm bytesTm (fun m cs' y' hm hy' => tm_read (m + 1) m cs' y' (Nat.lt_succ_self m) hy') h
  obtain ⟨h4, h5⟩ := hk hw
  exact ⟨l, rfl, ⟨hr, h4⟩, by omega⟩
set_option maxRecDepth 100000 in
theorem open_term {v : Value} {d : DataW H} {ps : List MemPlace} {r : Reach} {b0 : Nat} (hok : Value.okWide Try.prog W r b0 62 v) (h : DataW.Trod enc Try.prog W 0 (fun _ => true) true 62 v d ps)
    (hw : ∀ n ∈ d.weights Try.prog 62, n ≤ reachBytes) : ∃ t : Tm, v = t.val ∧ TmOK W t := by
  obtain ⟨cs, rfl, _⟩ := okWide_struct Try.underlying62 hok
  obtain ⟨fuel, hf⟩ := h
  obtain ⟨t, ht, hk⟩ := tm_read (fuel + 1) fuel cs.toList (d, ps) (Nat.lt_succ_self fuel) hf
  refine ⟨t, ?_, hk hw⟩
  have e : cs = t.cells.toArray := by rw [← ht]
  rw [e]
  rfl
end
end Go.Proofs.Ythpioncehigoaaa
