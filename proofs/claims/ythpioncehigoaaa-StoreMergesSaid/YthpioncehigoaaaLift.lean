/-
  From the walk of a law to its row: one lemma for whatever law answers true and writes nothing that was there; how arguments of some types are read.
  No program is named here.
-/
import Derived.Test.YthpioncehigoaaaMem
import Derived.ProofKit
import Derived.OpenShut
import Derived.SizedLaws
import Derived.Carry
import Derived.Deep.Fields
import Derived.Deep.Slices
import Derived.ShutString
set_option linter.unusedSimpArgs false
set_option linter.unusedVariables false
namespace Go.Proofs.Ythpioncehigoaaa
open Go.ChangeShapes Go.WideShapes Go.ChangeAt Go.RowKit Go.Deep
open Go.ChangeMaps (open_string shut_string)

section
variable {H : Type} {enc : TypeId × Value → H} {P : Program}

theorem trodAll_below (hl : laidOutB P = true) {W W' : World} (hb : Below W.heap.size W W') : ∀ (ts : List TypeId) (vs : List Value) (ds : List (DataW H)) (ps : List MemPlace),
    (ts.all fun t => P.readableRec t && decide (t < P.types.size)) = true → DataW.TrodAll enc P W 0 (fun _ => true) true ts vs ds ps → DataW.TrodAll enc P W' 0 (fun b => decide (b < W.heap.size)) true ts vs ds ps
  | [], vs, ds, ps, _, h => by
    obtain ⟨rfl, rfl, rfl⟩ := trodAll_nil h
    exact rfl
  | t :: ts, vs, ds, ps, hts, h => by
    obtain ⟨v, vs', d, ds', p, q, rfl, rfl, rfl, hd, hr⟩ := trodAll_cons h
    simp only [List.all_cons, Bool.and_eq_true, decide_eq_true_eq] at hts
    obtain ⟨⟨k1, k2⟩, k3⟩ := hts
    have lt : ∀ x ∈ p, x.block < W.heap.size := by
      obtain ⟨m, hm⟩ := hd
      exact DataW.trod_lt m _ _ _ hm
    exact ⟨p, q, Below.trod hl k1 k2 hd hb lt, trodAll_below hl hb ts vs' ds' q (by simpa using k3) hr, rfl⟩
theorem trodAll_length : ∀ (ts : List TypeId) {w : World} {base : Nat} {spare : Nat → Bool} {held : Bool} (vs : List Value) (ds : List (DataW H)) (ps : List MemPlace), DataW.TrodAll enc P w base spare held ts vs ds ps → ds.length = ts.length
  | [], _, _, _, _, vs, ds, ps, h => by
    obtain ⟨rfl, rfl, rfl⟩ := trodAll_nil h
    rfl
  | t :: ts, _, _, _, _, vs, ds, ps, h => by
    obtain ⟨v, vs', d, ds', p, q, rfl, rfl, rfl, hd, hr⟩ := trodAll_cons h
    rw [List.length_cons, List.length_cons, trodAll_length ts vs' ds' q hr]

/-- What a walk is told of its arguments. -/
structure Told (P : Program) (enc : TypeId × Value → H) (W : World) (ts : List TypeId) (args : Array Value) (ds : List (DataW H)) (p : List MemPlace) : Prop where
  trod : DataW.TrodAll enc P W 0 (fun _ => true) true ts args.toList ds p
  ok : ∃ base, ∀ (j : Nat) (t : TypeId) (v : Value), ts.toArray[j]? = some t → args[j]? = some v → Value.okWide P W .any base t v
  size : (DataW.weightsEach P ts ds).all (· ≤ reachBytes) = true
end

/-- The step from the walk to the row. -/
theorem lift_law {C : Checked} (own : ownKnob C.prog.godebug = none) {os : Os} (started : os.Started) {f : FuncId} {fn : Func} (noInit : C.prog.inits.idxOf? f = none) (hfn : C.prog.funcs[f]? = some fn)
    {s : ChangeSpec} (hvars : s.vars = []) (hbare : s.plain.varTypes C.prog = []) {tb : TypeId} (hres : fn.resultTypes = #[tb]) (hbool : C.prog.underlying tb = some .bool) (hl : laidOutB C.prog = true)
    (hts : (fn.params.toList.all fun t => C.prog.readableRec t && decide (t < C.prog.types.size)) = true) {conds : List PathCond}
    {H : Type} {enc : TypeId × Value → H} (hspec : ∀ (ds : List (DataW H)), ds.length = fn.params.toList.length → (s.fn H ds).results = [.lit (.bool true)] ∧ (s.fn H ds).args = ds ∧ (s.fn H ds).vars = [])
    (witness : ∃ (w : World) (tape : Tape) (i : Input), w.os = os ∧ (w.forCall tape i).Shaped C.prog ∧ i.vars = [] ∧ Input.okWide C.prog (w.forCall tape i) .any w.heap.size f i ∧
      s.pre6 enc C.prog fn conds false (w.forCall tape i).memory i.args ∧ Assume.holds {} C.prog (lone (Frame.enter C.prog f i.args .normal) [] (w.forCall tape i)))
    (walk : ∀ (W : World) (args : Array Value) (ds : List (DataW H)) (p : List MemPlace), Told C.prog enc W fn.params.toList args ds p →
      Calls C.prog f args W fun e W' => e = .returned (.bool true) ∧ Below W.heap.size W W') :
    ReturnsInHanded {} C os f .any (s.pre6 enc C.prog fn conds false) (s.post enc C.prog fn false true false false) := by
  refine returnsInHanded_of_change_sized (C := C) own started noInit hfn witness ?_
  intro W base args ds gs before hval hW _ hsz _
  have hW' := hW
  obtain ⟨p, q, hA, hV, rfl, hfz, hnd⟩ := hW
  rw [hvars] at hV
  obtain ⟨rfl, rfl⟩ := trodVars_none hV
  have hlen := trodAll_length fn.params.toList args.toList ds p hA
  obtain ⟨s1, s2, s3⟩ := hspec ds hlen
  refine (walk W args ds p ⟨hA, ⟨base, fun j t v ht hv => hval j t v (by simpa using ht) hv⟩, by rw [hbare] at hsz; simpa using hsz⟩).mono fun e W' ⟨he, bel⟩ => ?_
  subst he
  refine ⟨_, rfl, ds, [], _, [], p, [], hW', ?_, ?_, ?_, bel.frame _, fun h => by cases h⟩
  · rw [List.append_nil, s1, hres]
    exact trodAll_mk1 (shut_bool hbool _)
  · rw [List.append_nil, s2]
    exact trodAll_below hl bel _ _ _ _ hts hA
  · rw [List.append_nil, s3, hvars]
    exact rfl

section
variable {H : Type} {enc : TypeId × Value → H} {P : Program} {W : World}

/-- A slice of bytes that came in. -/
theorem open_bytes {t e : TypeId} {fuel : Nat} {a : Option Addr} {len cap : Nat} {x : DataW H × List MemPlace} (ht : P.underlying t = some (.slice e)) (he : P.underlying e = some (.int .u8)) (hC : P.cellsOf e = 1) (hB : P.bytesOf e = 1)
    (h : DataW.trod enc P W 0 (fun _ => true) true fuel t [.slice a len cap] = some x) :
    ∃ l : List UInt8, l.length = len ∧ Rd W (.slice a len cap) 1 len (bvs l) ∧ ((∀ n ∈ x.1.weights P t, n ≤ reachBytes) → len ≤ 140737488351232) := by
  rcases open_ints ht he hC h with ⟨hcs, hx⟩ | ⟨ad, len', cap', zs, hcs, _, hl, hm, hz, hx, hcell, hwz⟩
  · simp only [List.cons.injEq, and_true, Value.slice.injEq] at hcs
    obtain ⟨rfl, rfl, rfl⟩ := hcs
    exact ⟨[], rfl, rd_nil W 1, fun _ => by omega⟩
  · simp only [List.cons.injEq, and_true, Value.slice.injEq] at hcs
    obtain ⟨rfl, rfl, rfl⟩ := hcs
    simp only [if_true] at hz
    refine ⟨(zs.take len).map fun z => UInt8.ofNat z.toNat, by simp; omega, ⟨some ad, cap, rfl, by rw [length_bvs]; simp; omega, hl, hm, (fun hn => by cases hn), fun b o sp hA => ?_⟩, fun hw => ?_⟩
    case refine_2 =>
      have := hw ((len + (cap - len)) * 1) (by rw [hx]; simp [DataW.weights, ht, lits, hB]; omega)
      simp only [reachBytes] at this
      omega
    injection hA with hA
    subst hA
    have hsp : ∀ j, j < zs.length → sp = none := fun j hj => by
      have h0 := hcell 0 (by omega)
      simpa [Addr.add] using World.cell?_spot h0
    refine ⟨fun hn => hsp 0 (by omega), fun j u hu => ?_⟩
    have hj : j < len := by
      have := (List.getElem?_eq_some_iff.1 hu).1
      rw [length_bvs] at this
      simp at this
      omega
    obtain rfl := hsp 0 (by omega)
    have hc := hcell j (by omega)
    rw [Addr.add_lit] at hc
    rw [hc, ← hu]
    have hjz : j < zs.length := by omega
    simp only [bvs, List.getElem?_map, List.getElem?_take, if_pos hj, List.getElem?_eq_getElem hjz, List.getD_eq_getElem?_getD, Option.map_some, Option.getD_some, bv, UInt8.toNat_ofNat']
    have hwf := hwz _ (List.getElem_mem hjz)
    simp [Lit.wf, IntKind.min, IntKind.max, IntKind.signed, IntKind.bits] at hwf
    congr 2
    omega

theorem weightsAll_mem {e : TypeId} : ∀ {ds : List (DataW H)} {d : DataW H} {n : Nat}, d ∈ ds → n ∈ d.weights P e → n ∈ DataW.weightsAll P e ds
  | _ :: _, _, _, .head _, hn => by simp only [DataW.weightsAll, List.mem_append]; exact .inl hn
  | _ :: _, _, _, .tail _ hd, hn => by simp only [DataW.weightsAll, List.mem_append]; exact .inr (weightsAll_mem hd hn)

theorem flat_at {α β : Type} (f : α → List β) (m : Nat) (hm : ∀ a, (f a).length = m) : ∀ (l : List α) (k j : Nat) (a : α), l[k]? = some a → j < m → (l.flatMap f)[k * m + j]? = (f a)[j]?
  | [], k, j, a, h, _ => by simp at h
  | x :: l, 0, j, a, h, hj => by
    simp only [List.getElem?_cons_zero, Option.some.injEq] at h
    subst h
    rw [List.flatMap_cons, Nat.zero_mul, Nat.zero_add, List.getElem?_append_left (by rw [hm]; exact hj)]
  | x :: l, k + 1, j, a, h, hj => by
    rw [List.flatMap_cons, List.getElem?_append_right (by rw [hm]; rw [Nat.succ_mul]; omega), hm, show (k + 1) * m + j - m = k * m + j from by rw [Nat.succ_mul]; omega]
    exact flat_at f m hm l k j a (by simpa using h) hj
theorem flat_len {α β : Type} (f : α → List β) (m : Nat) (hm : ∀ a, (f a).length = m) (l : List α) : (l.flatMap f).length = l.length * m := by
  induction l with
  | nil => simp
  | cons x l ih => rw [List.flatMap_cons, List.length_append, hm, ih, List.length_cons, Nat.succ_mul]; omega

/-- A slice that came in whose elements are read as the cells 'f p'. -/
theorem open_rows {α : Type} (f : α → List Value) {size bytes : Nat} (hf : ∀ p, (f p).length = size) (hpos : 0 < size) (OK : α → Prop) {t e : TypeId} {fuel : Nat} {a : Option Addr} {len cap : Nat} {x : DataW H × List MemPlace}
    (ht : P.underlying t = some (.slice e)) (hC : P.cellsOf e = size) (hB : P.bytesOf e = bytes)
    (hread : ∀ n cs y, DataW.trod enc P W 0 (fun _ => true) true n e cs = some y → ∃ p, cs = f p ∧ ((∀ n ∈ y.1.weights P e, n ≤ reachBytes) → OK p))
    (h : DataW.trod enc P W 0 (fun _ => true) true fuel t [.slice a len cap] = some x) :
    ∃ ps : List α, ps.length = len ∧ Rd W (.slice a len cap) size len (ps.flatMap f) ∧ ((∀ n ∈ x.1.weights P t, n ≤ reachBytes) → (∀ p ∈ ps, OK p) ∧ len * bytes ≤ 140737488351232) := by
  rcases open_slice ht h with ⟨hcs, hx⟩ | ⟨ad, len', cap', m, n, D, Pl, hcs, _, hl, hm, hmm, hx, hi⟩
  · simp only [List.cons.injEq, and_true, Value.slice.injEq] at hcs
    obtain ⟨rfl, rfl, rfl⟩ := hcs
    exact ⟨[], rfl, rd_nil W size, fun _ => ⟨(fun p hp => by cases hp), by omega⟩⟩
  · simp only [List.cons.injEq, and_true, Value.slice.injEq] at hcs
    obtain ⟨rfl, rfl, rfl⟩ := hcs
    simp only [if_true] at hmm
    obtain rfl : cap = m := hmm.symm
    have key : ∀ k, k ≤ len → ∃ ps : List α, ps.length = k ∧ ∀ i p, ps[i]? = some p → (∀ j u, (f p)[j]? = some u → W.cell? ((ad.add (i * size)).add j) = some u) ∧ ((∀ n ∈ (D i).weights P e, n ≤ reachBytes) → OK p) := by
      intro k
      induction k with
      | zero => exact fun _ => ⟨[], rfl, fun i p hp => by simp at hp⟩
      | succ k ih =>
        intro hk
        obtain ⟨ps, hps, hall⟩ := ih (by omega)
        obtain ⟨cs', h1, h2⟩ := hi k (by omega)
        obtain ⟨p, rfl, hok⟩ := hread n cs' _ h2
        rw [hC] at h1
        obtain ⟨_, _, hat⟩ := World.cells?_some h1
        refine ⟨ps ++ [p], by simp [hps], fun i q hq => ?_⟩
        rw [List.getElem?_append] at hq
        split at hq
        · exact hall i q hq
        · have hik : i = k := by
            have := (List.getElem?_eq_some_iff.1 hq).1
            simp at this
            omega
          subst hik
          have hpq : p = q := by
            rw [hps, Nat.sub_self] at hq
            simpa using hq
          subst hpq
          refine ⟨fun j u hu => ?_, hok⟩
          have hj : j < size := by rw [← hf p]; exact (List.getElem?_eq_some_iff.1 hu).1
          rw [hat j hj, hu]
    obtain ⟨ps, hps, hall⟩ := key len (Nat.le_refl _)
    have hadd : ∀ i j : Nat, (ad.add i).add j = ad.add (i + j) := by
      intro i j
      unfold Addr.add
      by_cases hi : i = 0 <;> by_cases hj : j = 0 <;> simp [hi, hj, Nat.add_assoc]
    have hcell : ∀ q u, (ps.flatMap f)[q]? = some u → W.cell? (ad.add q) = some u := by
      intro q u hu
      have hq : q < len * size := by
        have := (List.getElem?_eq_some_iff.1 hu).1
        rwa [flat_len f size hf, hps] at this
      have hd : q / size < ps.length := by rw [hps]; exact Nat.div_lt_of_lt_mul (by rw [Nat.mul_comm]; exact hq)
      have hr : q % size < size := Nat.mod_lt _ hpos
      have hqe : q / size * size + q % size = q := by rw [Nat.mul_comm]; exact Nat.div_add_mod q size
      have h3 := hall (q / size) ps[q / size] (List.getElem?_eq_getElem hd)
      have h4 := flat_at f size hf ps (q / size) (q % size) ps[q / size] (List.getElem?_eq_getElem hd) hr
      rw [hqe, hu] at h4
      have h5 := h3.1 (q % size) u h4.symm
      rwa [hadd, hqe] at h5
    refine ⟨ps, hps, ⟨some ad, cap, rfl, by rw [flat_len f size hf, hps], hl, hm, (fun hn => by cases hn), fun b o sp hA => ?_⟩, fun hw => ⟨fun p hp => ?_, ?_⟩⟩
    · injection hA with hA
      subst hA
      have hsp : ∀ q u, (ps.flatMap f)[q]? = some u → sp = none := fun q u hu => by
        have hlt := (List.getElem?_eq_some_iff.1 hu).1
        have h0 := hcell 0 _ (List.getElem?_eq_getElem (by omega))
        simpa [Addr.add] using World.cell?_spot h0
      refine ⟨fun hn => hsp 0 _ (List.getElem?_eq_getElem (by rw [flat_len f size hf, hps]; omega)), fun j u hu => ?_⟩
      have hc := hcell j u hu
      obtain rfl := hsp j u hu
      rwa [Addr.add_lit] at hc
    · obtain ⟨i, hlt, rfl⟩ := List.getElem_of_mem hp
      refine (hall i _ (List.getElem?_eq_getElem hlt)).2 fun n hn => hw n ?_
      rw [hx]
      simp only [DataW.weights, ht, List.mem_cons, List.mem_append]
      exact .inr (.inl (weightsAll_mem (List.mem_map.2 ⟨i, by simp; omega, rfl⟩) hn))
    · have := hw ((len + (cap - len)) * bytes) (by rw [hx]; simp [DataW.weights, ht, hB])
      simp only [reachBytes] at this
      exact Nat.le_trans (Nat.mul_le_mul_right bytes (Nat.le_add_right len (cap - len))) this
end
end Go.Proofs.Ythpioncehigoaaa
