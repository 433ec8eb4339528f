/-
  Joined of texts of mine, in build order: Hb, Hc, Hd, He, Hf, Hg, Hh, Ma, Rs, Ab, Aa, Ac, Ad, Mb. Each says what it proves at its own head.
-/
import Derived.Deep.DeepCutAuto
import Derived.IntWalk
import Derived.Deep.Onto
import Derived.Lib.AppendZerosOnto
import Derived.Lib.Overlaps
import Derived.Test.YtnohmgpmmhlloaaGreatDoorPe
set_option linter.unusedSimpArgs false
set_option linter.unusedVariables false

namespace Go.Proofs.YtnohmgpmmhlloaaGreatDoor.S1
open Go.RowKit

def h0L : List Nat := [7640891576956012808, 13503953896175478587, 4354685564936845355, 11912009170470909681, 5840696475078001361, 11170449401992604703, 2270897969802886507, 6620516959819538809]
def kL : List Nat := [4794697086780616226, 8158064640168781261, 13096744586834688815, 16840607885511220156, 4131703408338449720, 6480981068601479193, 10538285296894168987, 12329834152419229976, 15566598209576043074, 1334009975649890238, 2608012711638119052, 6128411473006802146, 8268148722764581231, 9286055187155687089, 11230858885718282805, 13951009754708518548, 16472876342353939154, 17275323862435702243, 1135362057144423861, 2597628984639134821, 3308224258029322869, 5365058923640841347, 6679025012923562964, 8573033837759648693, 10970295158949994411, 12119686244451234320, 12683024718118986047, 13788192230050041572, 14330467153632333762, 15395433587784984357, 489312712824947311, 1452737877330783856, 2861767655752347644, 3322285676063803686, 5560940570517711597, 5996557281743188959, 7280758554555802590, 8532644243296465576, 9350256976987008742, 10552545826968843579, 11727347734174303076, 12113106623233404929, 14000437183269869457, 14369950271660146224, 15101387698204529176, 15463397548674623760, 17586052441742319658, 1182934255886127544, 1847814050463011016, 2177327727835720531, 2830643537854262169, 3796741975233480872, 4115178125766777443, 5681478168544905931, 6601373596472566643, 7507060721942968483, 8399075790359081724, 8693463985226723168, 9568029438360202098, 10144078919501101548, 10430055236837252648, 11840083180663258601, 13761210420658862357, 14299343276471374635, 14566680578165727644, 15097957966210449927, 16922976911328602910, 17689382322260857208, 500013540394364858, 748580250866718886, 1242879168328830382, 1977374033974150939, 2944078676154940804, 3659926193048069267, 4368137639120453308, 4836135668995329356, 5532061633213252278, 6448918945643986474, 6902733635092675308, 7801388544844847127]
def beV (l : List UInt8) : Nat := l.foldl (fun x c => x * 256 + c.toNat) 0
def beL : Nat → Nat → List UInt8
  | 0, _ => []
  | k + 1, x => UInt8.ofNat (x / 2 ^ (8 * k) % 256) :: beL k x
theorem beL_len : ∀ (k x : Nat), (beL k x).length = k
  | 0, _ => rfl
  | k + 1, x => by rw [beL, List.length_cons, beL_len k x]
theorem beV_take {l : List UInt8} {k : Nat} {c : UInt8} (h : l[k]? = some c) : beV (l.take (k + 1)) = beV (l.take k) * 256 + c.toNat := by
  obtain ⟨hk, hc⟩ := List.getElem?_eq_some_iff.1 h
  unfold beV
  rw [List.take_succ_eq_append_getElem hk, List.foldl_append, hc]
  rfl
theorem beV_lt (l : List UInt8) : ∀ k, k ≤ l.length → beV (l.take k) < 256 ^ k
  | 0, _ => by simp [beV]
  | k + 1, h => by
    obtain ⟨c, hc⟩ : ∃ c, l[k]? = some c := ⟨l[k], List.getElem?_eq_getElem (by omega)⟩
    have ih := beV_lt l k (by omega)
    have := c.toNat_lt
    rw [beV_take hc, Nat.pow_succ]
    omega
theorem shl_or (x c : Nat) (hx : x < 72057594037927936) (hc : c < 256) : bits .or .u64 (IntKind.u64.wrap ((x : Int) * 256)) (c : Int) = ((x * 256 + c : Nat) : Int) := by
  have e : IntKind.u64.wrap ((x : Int) * 256) = ((x * 256 : Nat) : Int) := by rw [IntKind.wrap_u64]; omega
  rw [e, u64_or_nat _ _ (by omega) (by omega), Nat.mul_comm x, show (256 : Nat) = 2 ^ 8 from rfl, ← Nat.two_pow_add_eq_or_of_lt hc]
theorem rd_at0 {w : World} {b o n c size : Nat} {xs : List Value} (h : Rd w (.slice (some ⟨b, o, none⟩) n c) size n xs) {j : Nat} {u : Value} (hu : xs[j]? = some u) : w.cell? ⟨b, o + j, none⟩ = some u := by
  obtain ⟨A', c', e, _, _, _, _, h5⟩ := h
  injection e with e1 _ _
  subst e1
  exact (h5 b o none rfl).2 j u hu
def WordRel (l : List UInt8) (x i : Value) : Prop := ∃ k : Nat, k ≤ l.length ∧ i = .int .i64 (k : Int) ∧ x = .int .u64 (beV (l.take k) : Int)
set_option maxRecDepth 100000 in
set_option maxHeartbeats 800000 in
theorem word_any (A : Option Addr) (c n : Nat) (l : List UInt8) (w : World) (hl : l.length = n) (hn : n ≤ 8) (hr : Rd w (.slice A n c) 1 n (bvs l)) :
    Calls Tryz.prog 177 #[.slice A n c] w fun e w' => e = .returned (.int .u64 (beV l : Int)) ∧ w = w' := by
  have HL := hide hl
  have HR := hide hr
  clear hl hr
  have hn2 : n ≤ 9223372036854775807 := by omega
  go_enter Tryz.func177, Tryz.ntmps177
  go_wp2_with fail
  go_loop [3, 8] (fun x i => WordRel l x i) (fun _ i => n - (intOf i).toNat)
  case atStart => exact ⟨0, Nat.zero_le _, rfl, rfl⟩
  case round =>
    obtain ⟨k, hk, rfl, rfl⟩ := hrel
    have hkn : k ≤ n := by rw [← HL.out]; exact hk
    clear hk
    by_cases hlt : k < n
    · obtain ⟨ch, hc⟩ : ∃ c, l[k]? = some c := ⟨l[k]'(by rw [HL.out]; exact hlt), List.getElem?_eq_getElem _⟩
      obtain ⟨b, o, rfl⟩ : ∃ b o, A = some ⟨b, o, none⟩ := by
        rcases HR.out.cases with ⟨_, h0, _⟩ | ⟨b, o, sp, c', hv, _, _, _, _, h4, _⟩
        · omega
        · injection hv with hv1 _ _
          have := h4 (by omega)
          subst this hv1
          exact ⟨b, o, rfl⟩
      have hcell := rd_at0 HR.out (bvs_get hc)
      have hb := beV_lt l k (by rw [HL.out]; exact hkn)
      have hs := shl_or (beV (l.take k)) ch.toNat (Nat.lt_of_lt_of_le hb (Nat.le_trans (Nat.pow_le_pow_right (by omega) (show k ≤ 7 by omega)) (by decide))) ch.toNat_lt
      have HT := hide (beV_take hc)
      rw [← beV_take hc] at hs
      have hwc : IntKind.u64.wrap (ch.toNat : Int) = (ch.toNat : Int) := by have := ch.toNat_lt; rw [IntKind.wrap_u64]; omega
      have dk : decide ((k : Int) < (n : Int)) = true := by simp; omega
      have ik : (k : Int) < (n : Int) := by omega
      clear hc hb
      have HY : Hid (beV (l.take (k + 1)) = beV (l.take (k + 1))) := hide rfl
      obtain ⟨y, hy⟩ : ∃ y, y = beV (l.take (k + 1)) := ⟨_, rfl⟩
      rw [← hy] at hs
      have HYE := hide hy
      clear hy HY
      generalize beV (l.take k) = x at *
      generalize ch.toNat = cn at *
      go_wp2_with fail
      go_round
      case rel => exact ⟨k + 1, by rw [HL.out]; omega, by go_num, by rw [← HYE.out]⟩
      case measure => (simp [intOf]) <;> omega
    · obtain rfl : k = n := by omega
      go_wp2_with fail
      go_ret
      refine ⟨?_, rfl⟩
      show Ending.returned (.int .u64 ((beV (l.take k) : Nat) : Int)) = _
      rw [List.take_of_length_le (by rw [HL.out]; exact Nat.le_refl _)]
theorem tyB : RowTy Tryz.prog 22 5 1 1 := rowTy_of (z := .int .u8 0) Tryz.underlying22 (by kernel_rfl) rfl (by decide)
theorem bvs_snoc (l : List UInt8) (m : Nat) (h : m < 256) : bvs (l ++ [UInt8.ofNat m]) = bvs l ++ [.int .u8 (m : Int)] := by
  simp only [bvs, List.map_append, List.map_cons, List.map_nil, bv, UInt8.toNat_ofNat']
  rw [Nat.mod_eq_of_lt (by omega)]
theorem byte_of (x s : Nat) : IntKind.u8.wrap ((x : Int) / 2 ^ s) = ((x / 2 ^ s % 256 : Nat) : Int) := by
  rw [IntKind.wrap_u8, show (x : Int) / 2 ^ s = ((x / 2 ^ s : Nat) : Int) from by rw [Int.natCast_ediv, Int.natCast_pow]; rfl]
  omega
def BehRel (w0 : World) (M : Nat → Prop) (H : List Chunk) (T : List UInt8) (x : Nat) (v i : Value) (wr : World) : Prop :=
  ∃ (j : Nat) (B : Option Addr) (d n : Nat) (l : List UInt8), j ≤ 8 ∧ i = .int .i64 (8 * (j : Int) - 8) ∧ v = .slice B n d ∧ l.length = n ∧ l ++ beL j x = T ∧ St w0 M wr (.row (.slice B n d) 5 1 n (bvs l) :: H)
set_option maxRecDepth 100000 in
set_option maxHeartbeats 800000 in
theorem behind_any {w0 : World} {M : Nat → Prop} {H : List Chunk} (B : Option Addr) (d n x : Nat) (l : List UInt8) (w : World) (hl : l.length = n) (hn : n ≤ 100000) (hx : x < W1)
    (hS : St w0 M w (.row (.slice B n d) 5 1 n (bvs l) :: H)) :
    Calls Tryz.prog 134 #[.slice B n d, .int .u64 (x : Int)] w fun e w' => ∃ B' d', e = .returned (.slice B' (n + 8) d') ∧ St w0 M w' (.row (.slice B' (n + 8) d') 5 1 (n + 8) (bvs (l ++ beL 8 x)) :: H) := by
  have HS0 := hide hS
  have HL := hide hl
  have HN := hide hn
  clear hS hl hn
  go_enter Tryz.func134, Tryz.ntmps134
  go_wp2_with fail
  go_loopw [0, 5] (fun v i wr => BehRel w0 M H (l ++ beL 8 x) x v i wr) (fun _ i _ => (intOf i + 8).toNat)
  case atStart => exact ⟨8, B, d, n, l, Nat.le_refl _, rfl, rfl, HL.out, rfl, HS0.out⟩
  case round =>
    obtain ⟨j, B2, d2, m, l2, hj, rfl, rfl, hm, hT, hS⟩ := hrel
    have HT := hide hT
    have HM := hide hm
    have HS := hide hS
    have hmb : m ≤ 100008 := by
      have := congrArg List.length hT
      rw [List.length_append, List.length_append, beL_len, beL_len, hm, HL.out] at this
      have := HN.out
      omega
    clear hT hm hS HS0
    cases j with
    | zero =>
      have hTz : l2 = l ++ beL 8 x := by
        have := HT.out
        rwa [beL, List.append_nil] at this
      have hmn : m = n + 8 := by rw [← HM.out, hTz, List.length_append, beL_len, HL.out]
      have HSZ : Hid (St w0 M wr (.row (.slice B2 (n + 8) d2) 5 1 (n + 8) (bvs (l ++ beL 8 x)) :: H)) := hide (by rw [← hmn, ← hTz]; exact HS.out)
      have HMN := hide hmn
      clear hTz hmn
      go_wp2_with fail
      go_ret
      refine ⟨B2, d2, ?_, HSZ.out⟩
      show Ending.returned (.slice B2 m d2) = _
      rw [HMN.out]
    | succ i =>
      have hi : (8 * ((i + 1 : Nat) : Int) - 8) = ((8 * i : Nat) : Int) := by omega
      rw [hi]
      have hby := byte_of x (8 * i)
      have hb2 : x / 2 ^ (8 * i) % 256 < 256 := Nat.mod_lt _ (by decide)
      have hd : decide ((0 : Int) ≤ ((8 * i : Nat) : Int)) = true := by simp; omega
      have hi7 : i ≤ 7 := by omega
      obtain ⟨s, hs⟩ : ∃ s, s = 8 * i := ⟨_, rfl⟩
      rw [← hs] at hby hd hb2 ⊢
      obtain ⟨y, hy⟩ : ∃ y, y = x / 2 ^ s % 256 := ⟨_, rfl⟩
      rw [← hy] at hby hb2
      have hs56 : s ≤ 56 := by omega
      have HY := hide hy
      have HSS := hide hs
      clear hi hy hs hj
      go_wp2_with (at_builtin; refine wl_append1 rfl rfl tyB HS.out 0 rfl rfl (us := [_]) rfl rfl ?_ ?_ (by decide) ?_; (intro u hu; simp only [List.mem_singleton] at hu; subst hu; rfl); (simp only [List.length_singleton]; omega); intro B3 d3 w3 hS3)
      go_roundw
      case rel =>
        refine ⟨i, B3, d3, m + 1, l2 ++ [UInt8.ofNat y], by omega, congrArg (Value.int .i64) (by have := HSS.out; omega), rfl, by rw [List.length_append, HM.out]; rfl, ?_, ?_⟩
        · have := HT.out
          rw [beL, ← HSS.out, ← HY.out] at this
          rw [← this, List.append_assoc]
          rfl
        · rw [bvs_snoc _ _ hb2]
          exact hS3
      case measure => (simp [intOf]) <;> omega
end Go.Proofs.YtnohmgpmmhlloaaGreatDoor.S1

namespace Go.Proofs.YtnohmgpmmhlloaaGreatDoor.S1
open Go.RowKit
set_option linter.unusedSimpArgs false

set_option maxRecDepth 100000 in
set_option maxHeartbeats 800000 in
theorem begin_any (w : World) : Calls Tryz.prog 130 #[] w fun e w' => e = .returned (.agg (uvs h0L).toArray) ∧ Below w.heap.size w w' := by
  have HS0 := hide ((St.init w NoB).alloc #[.int .u64 7640891576956012808, .int .u64 13503953896175478587, .int .u64 4354685564936845355, .int .u64 11912009170470909681, .int .u64 5840696475078001361, .int .u64 11170449401992604703, .int .u64 2270897969802886507, .int .u64 6620516959819538809] 170)
  go_enter Tryz.func130, Tryz.ntmps130
  go_wp2_with fail
  refine bodyPost_ret (results_cell_row rfl _ _ w.heap.size _ _ _ _ rfl (HS0.out.heap 0 rfl) Tryz.underlying170 rfl (by kernel_rfl)) rfl ?_
  exact ⟨rfl, HS0.out.below⟩
@[irreducible] def z80 : Array Value := (uvs (List.replicate 80 0)).toArray
@[irreducible] def kA : Array Value := (uvs kL).toArray
theorem zero80 (w : World) : (zeroValue 181).run Tryz.prog w = .ok (.agg z80) w := by unfold z80; kernel_rfl
theorem wl_run {P : Program} {ops : Array Oper} {rest : List Oper} {o : Oper} {a : Act} {w : World} {Q : Exit → Act → World → Prop} (hgd : o.guard = none) {v : Value} (hrun : (execOp a.eval o).run P w = .ok (.value v) w)
    (h : wpList P ops Q rest (a.put o.dst v) w) : wpList P ops Q (o :: rest) a w :=
  wpList_plain hgd fun K hK => by
    unfold Oper.wp
    rw [hrun, Oper.upon_value]
    exact hK _ _ h
set_option maxRecDepth 100000 in
set_option maxHeartbeats 1600000 in
theorem const1_any (w : World) : Calls Tryz.prog 163 #[] w fun e w' => e = .returned (.agg kA) ∧ Below w.heap.size w w' := by
  have HS0 := hide ((St.init w NoB).alloc z80 181)
  have hz := zero80
  go_enter Tryz.func163, Tryz.ntmps163
  go_upto_region 1 with fail
  refine wp_region_list ?_
  refine wl_run rfl (v := .agg kA) (by unfold kA; kernel_rfl) ?_
  refine wpList_store_row rfl 181 (.tmp 0) (.tmp 1) rfl w.heap.size kA rfl rfl 181 z80 (HS0.out.heap 0 rfl) (by unfold kA; kernel_rfl) (by unfold kA z80; rfl) (by unfold kA; kernel_rfl) ?_
  refine wpList_nil ?_
  have HS := hide (HS0.out.setRow 0 rfl kA)
  go_wp2_with fail
  refine bodyPost_ret (results_cell_row rfl _ _ w.heap.size _ _ _ _ rfl (HS.out.heap 0 rfl) Tryz.underlying181 rfl (by unfold kA; kernel_rfl)) rfl ?_
  exact ⟨rfl, HS.out.below⟩
def wad (x y : Nat) : Nat := (x + y) % W1
def schF (l : List Nat) (i : Nat) : Nat := wad (wad (wad (spr (l.getD (i - 2) 0) 19 61 6) (l.getD (i - 7) 0)) (spr (l.getD (i - 15) 0) 1 8 7)) (l.getD (i - 16) 0)
def schL (b : List UInt8) : Nat → List Nat
  | 0 => []
  | i + 1 => schL b i ++ [if i < 16 then beV ((b.drop (8 * i)).take 8) else schF (schL b i) i]
theorem schL_len (b : List UInt8) : ∀ i, (schL b i).length = i
  | 0 => rfl
  | i + 1 => by rw [schL, List.length_append, schL_len b i]; rfl
theorem wad_lt (x y : Nat) : wad x y < W1 := Nat.mod_lt _ (by decide)
theorem wad_wrap (x y : Nat) : IntKind.u64.wrap ((x : Int) + (y : Int)) = ((wad x y : Nat) : Int) := by
  unfold wad
  rw [IntKind.wrap_u64]
  show _ = (((x + y) % 18446744073709551616 : Nat) : Int)
  omega
theorem schL_words (b : List UInt8) : ∀ i, Words (schL b i)
  | 0 => fun x hx => by simp [schL] at hx
  | i + 1 => fun x hx => by
    rw [schL, List.mem_append, List.mem_singleton] at hx
    rcases hx with hx | hx
    · exact schL_words b i x hx
    · subst hx
      split
      · have := beV_lt ((b.drop (8 * i)).take 8) ((b.drop (8 * i)).take 8).length (Nat.le_refl _)
        rw [List.take_length] at this
        refine Nat.lt_of_lt_of_le this (Nat.le_trans (Nat.pow_le_pow_right (by omega) (show _ ≤ 8 from ?_)) (by decide))
        rw [List.length_take]
        omega
      · exact wad_lt _ _
def schA (b : List UInt8) (i : Nat) : List Nat := schL b i ++ List.replicate (80 - i) 0
theorem schA_len (b : List UInt8) (i : Nat) (h : i ≤ 80) : (schA b i).length = 80 := by unfold schA; rw [List.length_append, schL_len, List.length_replicate]; omega
theorem schA_set (b : List UInt8) (i : Nat) (h : i < 80) : (schA b i).set i (if i < 16 then beV ((b.drop (8 * i)).take 8) else schF (schL b i) i) = schA b (i + 1) := by
  unfold schA
  rw [List.set_append_right _ _ (by rw [schL_len]; exact Nat.le_refl _), schL_len, Nat.sub_self, show 80 - i = (80 - (i + 1)) + 1 from by omega, List.replicate_succ, List.set_cons_zero, schL, List.append_assoc]
  rfl
theorem schA_get (b : List UInt8) (i k : Nat) (h : k < i) : (schA b i)[k]? = some ((schL b i).getD k 0) := by
  unfold schA
  rw [List.getElem?_append_left (by rw [schL_len]; exact h), List.getD_eq_getElem?_getD, List.getElem?_eq_getElem (by rw [schL_len]; exact h)]
  rfl
theorem enSpread (args : Array Value) (w : World) : (callFunc 178 args).run Tryz.prog w = .ok (.enter 178 args) w := by kernel_rfl
theorem rd_mid0 {w : World} {b o n c : Nat} {l : List UInt8} (h : Rd w (.slice (some ⟨b, o, none⟩) n c) 1 n (bvs l)) (i j : Nat) (hij : i ≤ j) (hj : j ≤ n) :
    Rd w (.slice (some ⟨b, o + i, none⟩) (j - i) (c - i)) 1 (j - i) (bvs ((l.drop i).take (j - i))) := by
  obtain ⟨A', c', e, h1, h2, h3, h4, h5⟩ := h
  injection e with e1 _ e3
  subst e1 e3
  rw [length_bvs] at h1
  refine ⟨_, _, rfl, by rw [length_bvs, List.length_take, List.length_drop]; omega, by omega, by omega, (fun h => by cases h), ?_⟩
  intro b' o' sp' hA
  injection hA with hA
  injection hA with k1 k2 k3
  subst k1 k2 k3
  refine ⟨fun _ => rfl, fun k u hu => ?_⟩
  obtain ⟨x, hx, rfl⟩ : ∃ x, ((l.drop i).take (j - i))[k]? = some x ∧ u = .int .u8 (x.toNat : Int) := by
    simp only [bvs, List.getElem?_map, Option.map_eq_some_iff] at hu
    obtain ⟨x, h1, h2⟩ := hu
    exact ⟨x, h1, h2.symm⟩
  have hk : k < j - i := by
    have := (List.getElem?_eq_some_iff.1 hx).1
    rw [List.length_take] at this
    omega
  rw [List.getElem?_take_of_lt hk, List.getElem?_drop] at hx
  have := (h5 b o none rfl).2 (i + k) _ (bvs_get hx)
  rwa [show o + (i + k) = o + i + k from by omega] at this
theorem bnx {w0 w w' : World} (h : Below w0.heap.size w0 w) (h2 : Below w.heap.size w w') : Below w0.heap.size w0 w' := h.trans (h2.mono h.size)
theorem tyU64 : (Tryz.prog.info? 51).map (·.size) = some 1 := by kernel_rfl
def SchRel (w : World) (b : List UInt8) (iv : Value) (wr : World) : Prop :=
  ∃ i : Nat, i ≤ 80 ∧ iv = .int .i64 (i : Int) ∧ St w NoB wr [.cells (w.heap.size + 1) (uvs (schA b i)).toArray 181, .cells w.heap.size (uvs (schA [] 0)).toArray 181]
set_option maxRecDepth 100000 in
set_option maxHeartbeats 1600000 in
theorem schedule_any (A : Option Addr) (c : Nat) (l : List UInt8) (w : World) (hl : l.length = 128) (hr : Rd w (.slice A 128 c) 1 128 (bvs l)) :
    Calls Tryz.prog 162 #[.slice A 128 c] w fun e w' => e = .returned (.agg (uvs (schL l 80)).toArray) ∧ Below w.heap.size w w' := by
  have HR := hide hr
  have HL := hide hl
  obtain ⟨b, o, rfl⟩ : ∃ b o, A = some ⟨b, o, none⟩ := by
    rcases hr.cases with ⟨_, h0, _⟩ | ⟨b, o, sp, c', hv, _, _, _, _, h4, _⟩
    · cases h0
    · injection hv with hv1 _ _
      have := h4 (by decide)
      subst this hv1
      exact ⟨b, o, rfl⟩
  have hcap := rd_cap hr
  have HS0 := ((St.init w NoB).alloc (uvs (schA [] 0)).toArray 181).alloc (uvs (schA l 0)).toArray 181
  rw [size_alloc1] at HS0
  have HS := hide HS0
  have hz : ∀ w, (zeroValue 181).run Tryz.prog w = .ok (.agg (uvs (schA [] 0)).toArray) w := fun w => by have := zero80 w; unfold z80 at this; exact this
  clear HS0 hr hl
  go_enter Tryz.func162, Tryz.ntmps162
  go_wp2_with fail
  go_loopw [5] (fun i wr => SchRel w l i wr) (fun i _ => 80 - (intOf i).toNat)
  case atStart => exact ⟨0, by omega, rfl, HS.out⟩
  case round =>
    clear HS
    obtain ⟨i, hi, rfl, hS⟩ := hrel
    have HS := hide hS
    by_cases hlt : i < 80
    · by_cases h16 : i < 16
      · have d16 : decide ((i : Int) < 16) = true := by simp; omega
        have d80 : decide ((i : Int) < 80) = true := by simp; omega
        obtain ⟨x, hx⟩ : ∃ x, (schA l i)[i]? = some x := ⟨_, List.getElem?_eq_getElem (by rw [schA_len l i hi]; omega)⟩
        have cl : wr.cell? ⟨w.heap.size + 1, i, none⟩ = some (.int .u64 (x : Int)) := by
          rw [hS.cell 0 rfl i]
          exact uvs_get hx
        have fl := hS.free 0 rfl i
        have HT := hide (schA_set l i hlt)
        have HRS := hide (rd_mid0 (HR.out.st hS) (8 * i) (8 * i + 8) (by omega) (by omega))
        have i80 : (i : Int) < 80 := by omega
        clear hS hx
        go_wp2_with (go_at_call 177; refine (word_any _ _ 8 ((l.drop (8 * i)).take 8) _ (by rw [List.length_take, List.length_drop, HL.out]; omega) (Nat.le_refl _) (by have := HRS.out; rw [show 8 * i + 8 - 8 * i = 8 from by omega] at this; exact this)).mono ?_; rintro e w1 ⟨rfl, rfl⟩)
        go_roundw
        case rel =>
          have h3 := HS.out.setCell 0 rfl i (.int .u64 ((beV ((l.drop (8 * i)).take 8) : Nat) : Int))
          have ht := HT.out
          rw [if_pos h16] at ht
          rw [List.set_cons_zero, uvs_set, ht] at h3
          exact ⟨i + 1, by omega, by go_num, h3⟩
        case measure => (simp [intOf]) <;> omega
      · have d16 : decide ((i : Int) < 16) = false := by simp; omega
        have d80 : decide ((i : Int) < 80) = true := by simp; omega
        have HT := hide (schA_set l i hlt)
        obtain ⟨i2, hi2⟩ : ∃ m, m = i - 2 := ⟨_, rfl⟩
        obtain ⟨y2, hy2⟩ : ∃ y, y = (schL l i).getD i2 0 := ⟨_, rfl⟩
        have g2 : (schA l i)[i2]? = some y2 := by rw [hy2]; exact schA_get l i i2 (by omega)
        have b2 : y2 < W1 := by rw [hy2, List.getD_eq_getElem?_getD, List.getElem?_eq_getElem (by rw [schL_len]; omega)]; exact schL_words l i _ (List.getElem_mem _)
        have s2 : IntKind.i64.wrap ((i : Int) - 2) = (i2 : Int) := by rw [IntKind.wrap_i64]; omega
        have t2 : (i2 : Int) < 80 := by omega
        obtain ⟨i7, hi7⟩ : ∃ m, m = i - 7 := ⟨_, rfl⟩
        obtain ⟨y7, hy7⟩ : ∃ y, y = (schL l i).getD i7 0 := ⟨_, rfl⟩
        have g7 : (schA l i)[i7]? = some y7 := by rw [hy7]; exact schA_get l i i7 (by omega)
        have b7 : y7 < W1 := by rw [hy7, List.getD_eq_getElem?_getD, List.getElem?_eq_getElem (by rw [schL_len]; omega)]; exact schL_words l i _ (List.getElem_mem _)
        have s7 : IntKind.i64.wrap ((i : Int) - 7) = (i7 : Int) := by rw [IntKind.wrap_i64]; omega
        have t7 : (i7 : Int) < 80 := by omega
        obtain ⟨i15, hi15⟩ : ∃ m, m = i - 15 := ⟨_, rfl⟩
        obtain ⟨y15, hy15⟩ : ∃ y, y = (schL l i).getD i15 0 := ⟨_, rfl⟩
        have g15 : (schA l i)[i15]? = some y15 := by rw [hy15]; exact schA_get l i i15 (by omega)
        have b15 : y15 < W1 := by rw [hy15, List.getD_eq_getElem?_getD, List.getElem?_eq_getElem (by rw [schL_len]; omega)]; exact schL_words l i _ (List.getElem_mem _)
        have s15 : IntKind.i64.wrap ((i : Int) - 15) = (i15 : Int) := by rw [IntKind.wrap_i64]; omega
        have t15 : (i15 : Int) < 80 := by omega
        obtain ⟨i16, hi16⟩ : ∃ m, m = i - 16 := ⟨_, rfl⟩
        obtain ⟨y16, hy16⟩ : ∃ y, y = (schL l i).getD i16 0 := ⟨_, rfl⟩
        have g16 : (schA l i)[i16]? = some y16 := by rw [hy16]; exact schA_get l i i16 (by omega)
        have b16 : y16 < W1 := by rw [hy16, List.getD_eq_getElem?_getD, List.getElem?_eq_getElem (by rw [schL_len]; omega)]; exact schL_words l i _ (List.getElem_mem _)
        have s16 : IntKind.i64.wrap ((i : Int) - 16) = (i16 : Int) := by rw [IntKind.wrap_i64]; omega
        have t16 : (i16 : Int) < 80 := by omega
        have hF : schF (schL l i) i = wad (wad (wad (spr y2 19 61 6) y7) (spr y15 1 8 7)) y16 := by unfold schF; rw [← hi2, ← hi7, ← hi15, ← hi16, ← hy2, ← hy7, ← hy15, ← hy16]
        have i80 : (i : Int) < 80 := by omega
        have HS' := hide hS.drew
        have c2 : ∀ z, From wr.drew z → z.cell? ⟨w.heap.size + 1, i2, none⟩ = some (.int .u64 (y2 : Int)) := fun z hz => by rw [hz.cell (p := ⟨w.heap.size + 1, i2, none⟩) (Chunk.lt (HS'.out.sat 0 _ rfl) rfl), HS'.out.cell 0 rfl i2]; exact uvs_get g2
        have c7 : ∀ z, From wr.drew z → z.cell? ⟨w.heap.size + 1, i7, none⟩ = some (.int .u64 (y7 : Int)) := fun z hz => by rw [hz.cell (p := ⟨w.heap.size + 1, i7, none⟩) (Chunk.lt (HS'.out.sat 0 _ rfl) rfl), HS'.out.cell 0 rfl i7]; exact uvs_get g7
        have c15 : ∀ z, From wr.drew z → z.cell? ⟨w.heap.size + 1, i15, none⟩ = some (.int .u64 (y15 : Int)) := fun z hz => by rw [hz.cell (p := ⟨w.heap.size + 1, i15, none⟩) (Chunk.lt (HS'.out.sat 0 _ rfl) rfl), HS'.out.cell 0 rfl i15]; exact uvs_get g15
        have c16 : ∀ z, From wr.drew z → z.cell? ⟨w.heap.size + 1, i16, none⟩ = some (.int .u64 (y16 : Int)) := fun z hz => by rw [hz.cell (p := ⟨w.heap.size + 1, i16, none⟩) (Chunk.lt (HS'.out.sat 0 _ rfl) rfl), HS'.out.cell 0 rfl i16]; exact uvs_get g16
        have HA := hide (fun W => spread_any y2 19 61 6 W b2 (by decide) (by decide) (by decide))
        have HB := hide (fun W => spread_any y15 1 8 7 W b15 (by decide) (by decide) (by decide))
        have w1 : IntKind.u64.wrap (((spr y2 19 61 6 : Nat) : Int) + (y7 : Int)) = ((wad (spr y2 19 61 6) y7 : Nat) : Int) := wad_wrap _ _
        have w2 : IntKind.u64.wrap (((wad (spr y2 19 61 6) y7 : Nat) : Int) + ((spr y15 1 8 7 : Nat) : Int)) = ((wad (wad (spr y2 19 61 6) y7) (spr y15 1 8 7) : Nat) : Int) := wad_wrap _ _
        have w3 : IntKind.u64.wrap (((wad (wad (spr y2 19 61 6) y7) (spr y15 1 8 7) : Nat) : Int) + (y16 : Int)) = ((wad (wad (wad (spr y2 19 61 6) y7) (spr y15 1 8 7)) y16 : Nat) : Int) := wad_wrap _ _
        generalize wad (wad (wad (spr y2 19 61 6) y7) (spr y15 1 8 7)) y16 = z3 at *
        generalize wad (wad (spr y2 19 61 6) y7) (spr y15 1 8 7) = z2 at *
        generalize wad (spr y2 19 61 6) y7 = z1 at *
        generalize spr y2 19 61 6 = p1 at *
        generalize spr y15 1 8 7 = p2 at *
        have HF := hide hF
        have HLEN := hide (schA_len l i hi)
        clear hF hS hi2 hy2 g2 b2 hi7 hy7 g7 b7 hi15 hy15 g15 b15 hi16 hy16 g16 b16
        go_wp2_with fail
        refine wp_region_M (fun i => i == 23) (From wr.drew) (by kernel_rfl) ?_
        (refine wpM_takeU (i := 0) (v := ?_) rfl (by kernel_rfl) (by kernel_rfl) (by kernel_rfl) (fun _ _ _ h => h) ((From.refl wr.drew)) rfl (Or.inl ⟨by first | kernel_rfl | rfl, ?_⟩) ?_; rotate_left; (intro wx; go_simp) <;> (with_reducible rfl); (try simp only [Act.put, nq1, nq2, nq3, nq4, nq5, nq6])); (refine wpM_takeU (i := 1) (v := ?_) rfl (by kernel_rfl) (by kernel_rfl) (by kernel_rfl) (fun _ _ _ h => h) ((From.refl wr.drew)) rfl (Or.inl ⟨by first | kernel_rfl | rfl, ?_⟩) ?_; rotate_left; (intro wx; go_simp) <;> (with_reducible rfl); (try simp only [Act.put, nq1, nq2, nq3, nq4, nq5, nq6])); (refine wpM_takeU (i := 2) (v := ?_) rfl (by kernel_rfl) (by kernel_rfl) (by kernel_rfl) (fun _ _ _ h => h) ((From.refl wr.drew)) rfl (Or.inl ⟨by first | kernel_rfl | rfl, ?_⟩) ?_; rotate_left; (intro wx; go_simp) <;> (with_reducible rfl); (try simp only [Act.put, nq1, nq2, nq3, nq4, nq5, nq6])); (refine wpM_takeU (i := 3) (v := ?_) rfl (by kernel_rfl) (by kernel_rfl) (by kernel_rfl) (fun _ _ _ h => h) ((From.refl wr.drew)) rfl (Or.inl ⟨by first | kernel_rfl | rfl, ?_⟩) ?_; rotate_left; (intro wx; go_simp) <;> (with_reducible rfl); (try simp only [Act.put, nq1, nq2, nq3, nq4, nq5, nq6]))
        (refine wpM_take (i := 4) (v := ?_) rfl (by kernel_rfl) (by kernel_rfl) (by kernel_rfl) (fun _ _ _ h => h) ((From.refl wr.drew)) rfl (by kernel_rfl) (Or.inl ⟨by first | kernel_rfl | rfl, ?_⟩) ?_; rotate_left; (intro wx hx; go_simp) <;> (with_reducible rfl); (try simp only [Act.put, nq1, nq2, nq3, nq4, nq5, nq6]))
        (refine wpM_takeU (i := 6) (v := ?_) rfl (by kernel_rfl) (by kernel_rfl) (by kernel_rfl) (fun _ _ _ h => h) ((From.refl wr.drew)) rfl (Or.inl ⟨by first | kernel_rfl | rfl, ?_⟩) ?_; rotate_left; (intro wx; go_simp) <;> (with_reducible rfl); (try simp only [Act.put, nq1, nq2, nq3, nq4, nq5, nq6])); (refine wpM_takeU (i := 7) (v := ?_) rfl (by kernel_rfl) (by kernel_rfl) (by kernel_rfl) (fun _ _ _ h => h) ((From.refl wr.drew)) rfl (Or.inl ⟨by first | kernel_rfl | rfl, ?_⟩) ?_; rotate_left; (intro wx; go_simp) <;> (with_reducible rfl); (try simp only [Act.put, nq1, nq2, nq3, nq4, nq5, nq6])); (refine wpM_takeU (i := 8) (v := ?_) rfl (by kernel_rfl) (by kernel_rfl) (by kernel_rfl) (fun _ _ _ h => h) ((From.refl wr.drew)) rfl (Or.inl ⟨by first | kernel_rfl | rfl, ?_⟩) ?_; rotate_left; (intro wx; go_simp) <;> (with_reducible rfl); (try simp only [Act.put, nq1, nq2, nq3, nq4, nq5, nq6]))
        (refine wpM_take (i := 9) (v := ?_) rfl (by kernel_rfl) (by kernel_rfl) (by kernel_rfl) (fun _ _ _ h => h) ((From.refl wr.drew)) rfl (by kernel_rfl) (Or.inl ⟨by first | kernel_rfl | rfl, ?_⟩) ?_; rotate_left; (intro wx hx; go_simp) <;> (with_reducible rfl); (try simp only [Act.put, nq1, nq2, nq3, nq4, nq5, nq6]))
        (refine wpM_takeU (i := 11) (v := ?_) rfl (by kernel_rfl) (by kernel_rfl) (by kernel_rfl) (fun _ _ _ h => h) ((From.refl wr.drew)) rfl (Or.inl ⟨by first | kernel_rfl | rfl, ?_⟩) ?_; rotate_left; (intro wx; go_simp) <;> (with_reducible rfl); (try simp only [Act.put, nq1, nq2, nq3, nq4, nq5, nq6])); (refine wpM_takeU (i := 12) (v := ?_) rfl (by kernel_rfl) (by kernel_rfl) (by kernel_rfl) (fun _ _ _ h => h) ((From.refl wr.drew)) rfl (Or.inl ⟨by first | kernel_rfl | rfl, ?_⟩) ?_; rotate_left; (intro wx; go_simp) <;> (with_reducible rfl); (try simp only [Act.put, nq1, nq2, nq3, nq4, nq5, nq6])); (refine wpM_takeU (i := 13) (v := ?_) rfl (by kernel_rfl) (by kernel_rfl) (by kernel_rfl) (fun _ _ _ h => h) ((From.refl wr.drew)) rfl (Or.inl ⟨by first | kernel_rfl | rfl, ?_⟩) ?_; rotate_left; (intro wx; go_simp) <;> (with_reducible rfl); (try simp only [Act.put, nq1, nq2, nq3, nq4, nq5, nq6]))
        (refine wpM_take (i := 14) (v := ?_) rfl (by kernel_rfl) (by kernel_rfl) (by kernel_rfl) (fun _ _ _ h => h) ((From.refl wr.drew)) rfl (by kernel_rfl) (Or.inl ⟨by first | kernel_rfl | rfl, ?_⟩) ?_; rotate_left; (intro wx hx; go_simp) <;> (with_reducible rfl); (try simp only [Act.put, nq1, nq2, nq3, nq4, nq5, nq6]))
        (refine wpM_takeU (i := 17) (v := ?_) rfl (by kernel_rfl) (by kernel_rfl) (by kernel_rfl) (fun _ _ _ h => h) ((From.refl wr.drew)) rfl (Or.inl ⟨by first | kernel_rfl | rfl, ?_⟩) ?_; rotate_left; (intro wx; go_simp) <;> (with_reducible rfl); (try simp only [Act.put, nq1, nq2, nq3, nq4, nq5, nq6])); (refine wpM_takeU (i := 18) (v := ?_) rfl (by kernel_rfl) (by kernel_rfl) (by kernel_rfl) (fun _ _ _ h => h) ((From.refl wr.drew)) rfl (Or.inl ⟨by first | kernel_rfl | rfl, ?_⟩) ?_; rotate_left; (intro wx; go_simp) <;> (with_reducible rfl); (try simp only [Act.put, nq1, nq2, nq3, nq4, nq5, nq6])); (refine wpM_takeU (i := 19) (v := ?_) rfl (by kernel_rfl) (by kernel_rfl) (by kernel_rfl) (fun _ _ _ h => h) ((From.refl wr.drew)) rfl (Or.inl ⟨by first | kernel_rfl | rfl, ?_⟩) ?_; rotate_left; (intro wx; go_simp) <;> (with_reducible rfl); (try simp only [Act.put, nq1, nq2, nq3, nq4, nq5, nq6]))
        (refine wpM_take (i := 20) (v := ?_) rfl (by kernel_rfl) (by kernel_rfl) (by kernel_rfl) (fun _ _ _ h => h) ((From.refl wr.drew)) rfl (by kernel_rfl) (Or.inl ⟨by first | kernel_rfl | rfl, ?_⟩) ?_; rotate_left; (intro wx hx; go_simp) <;> (with_reducible rfl); (try simp only [Act.put, nq1, nq2, nq3, nq4, nq5, nq6]))
        (refine wpM_one (i := 5) (by kernel_rfl) rfl rfl ?_; intro K hK; (try simp only [Act.put, nq1, nq2, nq3, nq4, nq5, nq6]))
        refine step_call rfl rfl enSpread rfl (HA.out _) ?_
        rintro e v1 ⟨rfl, hb1⟩
        have F1 : From wr.drew v1 := bnx (From.refl wr.drew) hb1
        refine ⟨_, rfl, hK (From wr.drew) _ _ (fun _ h => h) F1 ?_⟩
        clear hK K
        (try simp only [Act.put, nq1, nq2, nq3, nq4, nq5, nq6])
        (refine wpM_takeU (i := 10) (v := ?_) rfl (by kernel_rfl) (by kernel_rfl) (by kernel_rfl) (fun _ _ _ h => h) (F1) rfl (Or.inl ⟨by first | kernel_rfl | rfl, ?_⟩) ?_; rotate_left; (intro wx; go_simp) <;> (with_reducible rfl); (try simp only [Act.put, nq1, nq2, nq3, nq4, nq5, nq6]))
        (refine wpM_one (i := 15) (by kernel_rfl) rfl rfl ?_; intro K hK; (try simp only [Act.put, nq1, nq2, nq3, nq4, nq5, nq6]))
        refine step_call rfl rfl enSpread rfl (HB.out _) ?_
        rintro e v2 ⟨rfl, hb2⟩
        have F2 : From wr.drew v2 := bnx F1 hb2
        refine ⟨_, rfl, hK (From wr.drew) _ _ (fun _ h => h) F2 ?_⟩
        clear hK K
        (try simp only [Act.put, nq1, nq2, nq3, nq4, nq5, nq6])
        (refine wpM_takeU (i := 16) (v := ?_) rfl (by kernel_rfl) (by kernel_rfl) (by kernel_rfl) (fun _ _ _ h => h) (F2) rfl (Or.inl ⟨by first | kernel_rfl | rfl, ?_⟩) ?_; rotate_left; (intro wx; go_simp) <;> (with_reducible rfl); (try simp only [Act.put, nq1, nq2, nq3, nq4, nq5, nq6])); (refine wpM_takeU (i := 21) (v := ?_) rfl (by kernel_rfl) (by kernel_rfl) (by kernel_rfl) (fun _ _ _ h => h) (F2) rfl (Or.inl ⟨by first | kernel_rfl | rfl, ?_⟩) ?_; rotate_left; (intro wx; go_simp) <;> (with_reducible rfl); (try simp only [Act.put, nq1, nq2, nq3, nq4, nq5, nq6])); (refine wpM_takeU (i := 22) (v := ?_) rfl (by kernel_rfl) (by kernel_rfl) (by kernel_rfl) (fun _ _ _ h => h) (F2) rfl (Or.inl ⟨by first | kernel_rfl | rfl, ?_⟩) ?_; rotate_left; (intro wx; go_simp) <;> (with_reducible rfl); (try simp only [Act.put, nq1, nq2, nq3, nq4, nq5, nq6]))
        (refine wpM_late (i := 23) (by kernel_rfl) rfl rfl ?_; intro K hK; (try simp only [Act.put, nq1, nq2, nq3, nq4, nq5, nq6]))
        refine step_store rfl rfl tyU64 (HS'.out.call F2) 0 rfl i (by rw [List.size_toArray, uvs_len, HLEN.out]; omega) rfl (v := .int .u64 (z3 : Int)) rfl rfl ?_
        intro w9 hS9
        refine hK _ _ ?_
        clear hK K
        (try simp only [Act.put, nq1, nq2, nq3, nq4, nq5, nq6])
        refine wpAny_done (by kernel_rfl) ?_ _
        go_wp2_with fail
        go_roundw
        case rel =>
          have ht := HT.out
          rw [if_neg h16, HF.out] at ht
          rw [List.set_cons_zero, uvs_set, ht] at hS9
          exact ⟨i + 1, by omega, by go_num, hS9⟩
        case measure => (simp [intOf]) <;> omega
    · obtain rfl : i = 80 := by omega
      have hA : schA l 80 = schL l 80 := by unfold schA; simp
      rw [hA] at hS
      obtain ⟨xs, hxs⟩ : ∃ xs, xs = (uvs (schL l 80)).toArray := ⟨_, rfl⟩
      have hsz : xs.size = 80 := by rw [hxs, List.size_toArray, uvs_len, schL_len]
      have hone : xs.all (·.oneCell') = true := by rw [hxs, Array.all_eq_true_iff_forall_mem]; intro v hv; exact uvs_one _ v (by simpa using hv)
      rw [← hxs] at hS
      have HXS := hide hxs
      have HS := hide (hS.setRow 1 rfl xs)
      have HS1 := hide hS
      have hsz0 : (uvs (schA [] 0)).toArray.size = 80 := by rw [List.size_toArray, uvs_len]; rfl
      clear hS hA hz hxs
      go_upto_region 9 with fail
      refine wp_region_list ?_
      refine wpList_load_row rfl 181 (.tmp 3) rfl (w.heap.size + 1) rfl 181 xs _ _ (HS1.out.heap 0 rfl) Tryz.underlying181 rfl (by rw [hsz]; kernel_rfl) ?_
      refine wpList_store_row rfl 181 (.tmp 2) (.tmp 44) rfl w.heap.size xs rfl rfl 181 _ (HS1.out.heap 1 rfl) (by rw [hsz]; kernel_rfl) (by rw [hsz, hsz0]) hone ?_
      refine wpList_nil ?_
      go_wp2_with fail
      refine bodyPost_ret (results_cell_row rfl _ _ w.heap.size _ _ _ _ rfl (HS.out.heap 1 rfl) Tryz.underlying181 rfl (by rw [hsz]; kernel_rfl)) rfl ?_
      exact ⟨by rw [HXS.out], HS.out.below⟩
end Go.Proofs.YtnohmgpmmhlloaaGreatDoor.S1

namespace Go.Proofs.YtnohmgpmmhlloaaGreatDoor.S1
open Go.RowKit
set_option linter.unusedSimpArgs false

def chz (e f g : Nat) : Nat := (e &&& f) ^^^ ((18446744073709551615 ^^^ e) &&& g)
def mjr (a b c : Nat) : Nat := ((a &&& b) ^^^ (a &&& c)) ^^^ (b &&& c)
def rnd : List Nat → Nat → Nat → List Nat
  | [a, b, c, d, e, f, g, h], k, x => [wad (wad (wad (wad (wad h (mix e 14 18 41)) (chz e f g)) k) x) (wad (mix a 28 34 39) (mjr a b c)), a, b, c, wad d (wad (wad (wad (wad h (mix e 14 18 41)) (chz e f g)) k) x), e, f, g]
  | s, _, _ => s
def rnds (h ws : List Nat) : Nat → List Nat
  | 0 => h
  | i + 1 => rnd (rnds h ws i) (kL.getD i 0) (ws.getD i 0)
def comp (h : List Nat) (b : List UInt8) : List Nat := List.zipWith wad h (rnds h (schL b 80) 80)
theorem list8 {xs : List Nat} (h : xs.length = 8) : ∃ a b c d e f g k, xs = [a, b, c, d, e, f, g, k] := by
  match xs, h with
  | [a, b, c, d, e, f, g, k], _ => exact ⟨a, b, c, d, e, f, g, k, rfl⟩
theorem rnd_ok {s : List Nat} (h : s.length = 8) (hw : Words s) (k x : Nat) : (rnd s k x).length = 8 ∧ Words (rnd s k x) := by
  obtain ⟨a, b, c, d, e, f, g, z, rfl⟩ := list8 h
  refine ⟨rfl, fun y hy => ?_⟩
  simp only [rnd, List.mem_cons, List.not_mem_nil, or_false] at hy
  rcases hy with rfl | rfl | rfl | rfl | rfl | rfl | rfl | rfl
  · exact wad_lt _ _
  · exact hw _ (by simp)
  · exact hw _ (by simp)
  · exact hw _ (by simp)
  · exact wad_lt _ _
  · exact hw _ (by simp)
  · exact hw _ (by simp)
  · exact hw _ (by simp)
theorem rnds_ok {h : List Nat} (hl : h.length = 8) (hw : Words h) (ws : List Nat) : ∀ i, (rnds h ws i).length = 8 ∧ Words (rnds h ws i)
  | 0 => ⟨hl, hw⟩
  | i + 1 => by
    obtain ⟨h1, h2⟩ := rnds_ok hl hw ws i
    exact rnd_ok h1 h2 _ _
theorem comp_ok {h : List Nat} (hl : h.length = 8) (hw : Words h) (b : List UInt8) : (comp h b).length = 8 ∧ Words (comp h b) := by
  obtain ⟨h1, h2⟩ := rnds_ok hl hw (schL b 80) 80
  refine ⟨by unfold comp; rw [List.length_zipWith, hl, h1]; rfl, fun y hy => ?_⟩
  unfold comp at hy
  obtain ⟨i, hi, rfl⟩ := List.getElem_of_mem hy
  rw [List.getElem_zipWith]
  exact wad_lt _ _
theorem h0_ok : h0L.length = 8 ∧ Words h0L := ⟨rfl, by unfold Words; decide +kernel⟩
theorem kL_get (i : Nat) (h : i < 80) : kL[i]? = some (kL.getD i 0) ∧ kL.getD i 0 < W1 := by
  have hl : kL.length = 80 := by decide
  have hw : Words kL := by unfold Words; decide +kernel
  refine ⟨by rw [List.getD_eq_getElem?_getD, List.getElem?_eq_getElem (by omega)]; rfl, ?_⟩
  rw [List.getD_eq_getElem?_getD, List.getElem?_eq_getElem (by omega)]
  exact hw _ (List.getElem_mem _)
section
variable {P : Program} {ops : Array Oper} {rest : List Oper} {o : Oper} {a : Act} {w : World} {Q : Exit → Act → World → Prop}
theorem wl_call (hgd : o.guard = none) {f : FuncId} {xs : List Operand} {ts : Array TypeId} {vs : List Value} {R : Ending → World → Prop}
    (ho : o.op = .call { callee := .value (.func f), args := xs.toArray, argTypes := ts }) (hf : ∀ (args : Array Value) (w : World), (callFunc f args).run P w = .ok (.enter f args) w)
    (hx : xs.map a.eval = vs) (hc : Calls P f vs.toArray w R) (h : ∀ e w', R e w' → ∃ v, e = .returned v ∧ wpList P ops Q rest (a.put o.dst v) w') : wpList P ops Q (o :: rest) a w :=
  wpList_plain hgd fun _ hK => wp_call ho hf hx hc fun e w' hr => by
    obtain ⟨v, he, hk⟩ := h e w' hr
    exact ⟨v, he, hK _ _ hk⟩
theorem wl_alloc (hgd : o.guard = none) {zs : Array Value} {e : TypeId} (hrun : (execOp a.eval o).run P w = .ok (.value (.pointer (some ⟨w.heap.size, 0, none⟩))) (w.alloc (.cells zs e)))
    (h : wpList P ops Q rest (a.put o.dst (.pointer (some ⟨w.heap.size, 0, none⟩))) (w.alloc (.cells zs e))) : wpList P ops Q (o :: rest) a w :=
  wpList_plain hgd fun K hK => by
    unfold Oper.wp
    rw [hrun, Oper.upon_value]
    exact hK _ _ h
end
section
variable {P : Program} {ops : Array Oper} {rest : List Oper} {o : Oper} {a : Act} {w0 w : World} {M : Nat → Prop} {H : List Chunk} {Q : Exit → Act → World → Prop}
theorem wl_allocS (hgd : o.guard = none) {zs : Array Value} {e : TypeId} (hrun : ∀ w, (execOp a.eval o).run P w = .ok (.value (.pointer (some ⟨w.heap.size, 0, none⟩))) (w.alloc (.cells zs e))) (hS : St w0 M w H)
    (h : ∀ g w', St w0 M w' (.cells g zs e :: H) → wpList P ops Q rest (a.put o.dst (.pointer (some ⟨g, 0, none⟩))) w') : wpList P ops Q (o :: rest) a w :=
  wl_alloc hgd (hrun w) (h w.heap.size _ (hS.alloc zs e))
theorem wl_storeRow (hgd : o.guard = none) {t : TypeId} {p x : Operand} (ho : o.op = .store t p x) (hS : St w0 M w H) (i : Nat) {g : Nat} {c : Array Value} {e : TypeId} (hi : H[i]? = some (.cells g c e)) {cs : Array Value}
    (hp : a.eval p = .pointer (some ⟨g, 0, none⟩)) (hx : a.eval x = .agg cs) (ht : (P.info? t).map (·.size) = some cs.size) (hc : c.size = cs.size) (h1 : cs.all (·.oneCell') = true)
    (h : ∀ w', St w0 M w' (H.set i (.cells g cs e)) → wpList P ops Q rest (a.put o.dst undef) w') : wpList P ops Q (o :: rest) a w :=
  wpList_store_row hgd t p x ho g cs hp hx e c (hS.heap i hi) ht hc h1 (h _ (hS.setRow i hi cs))
end
theorem uvs_all (xs : List Nat) : (uvs xs).toArray.all (·.oneCell') = true := by rw [Array.all_eq_true_iff_forall_mem]; intro v hv; exact uvs_one _ v (by simpa using hv)
theorem kA_size : kA.size = 80 := by unfold kA; rfl
theorem z80_size : z80.size = 80 := by unfold z80; rfl
theorem kA_all : kA.all (·.oneCell') = true := by unfold kA; exact uvs_all _
theorem alloc80 {a : Act} {o : Oper} (ho : o.op = .alloc 181) (W : World) : (execOp a.eval o).run Tryz.prog W = .ok (.value (.pointer (some ⟨W.heap.size, 0, none⟩))) (W.alloc (.cells z80 181)) := by
  have hz := zero80 W
  simp only [execOp, ho, Instr.alloc, Sem.run_bind, Sem.run_pure, Result.andThen_ok, hz]
  rfl
theorem info80 (n : Nat) (h : n = 80) : (Tryz.prog.info? 181).map (·.size) = some n := by rw [h]; kernel_rfl
theorem enSched (args : Array Value) (w : World) : (callFunc 162 args).run Tryz.prog w = .ok (.enter 162 args) w := by kernel_rfl
theorem enConst (args : Array Value) (w : World) : (callFunc 163 args).run Tryz.prog w = .ok (.enter 163 args) w := by kernel_rfl
theorem enMixes (args : Array Value) (w : World) : (callFunc 164 args).run Tryz.prog w = .ok (.enter 164 args) w := by kernel_rfl
def hashC (hs : List Nat) (r : Value) (n : Nat) : Array Value := (uvs hs ++ [r, .int .u64 (n : Int)]).toArray
def TkRel (w0 : World) (M : Nat → Prop) (H : List Chunk) (g6 g5 g4 g : Nat) (hs ws : List Nat) (r : Value) (n : Nat) (iv : Value) (wr : World) : Prop :=
  ∃ i : Nat, i ≤ 80 ∧ iv = .int .i64 (i : Int) ∧ St w0 M wr (.cells g6 (uvs (rnds hs ws i)).toArray 170 :: .cells g5 kA 181 :: .cells g4 (uvs ws).toArray 181 :: .cells g (hashC hs r n) 173 :: H)
theorem _root_.Go.Proofs.YtnohmgpmmhlloaaGreatDoor.St.pick3 {w0 w : World} {M : Nat → Prop} {H : List Chunk} {a b c : Chunk} (h : St w0 M w (a :: b :: c :: H)) : St w0 M w H := h.tail.tail.tail
def zipP (hs s : List Nat) (j : Nat) : List Nat := (List.zipWith wad hs s).take j ++ hs.drop j
theorem zipP_len (hs s : List Nat) (j : Nat) (h : hs.length = 8) (h2 : s.length = 8) (hj : j ≤ 8) : (zipP hs s j).length = 8 := by
  unfold zipP; rw [List.length_append, List.length_take, List.length_zipWith, List.length_drop, h, h2]; omega
theorem zipP_get (hs s : List Nat) (j x : Nat) (h : hs.length = 8) (h2 : s.length = 8) (hx : hs[j]? = some x) : (zipP hs s j)[j]? = some x := by
  have hj := (List.getElem?_eq_some_iff.1 hx).1
  have hl : ((List.zipWith wad hs s).take j).length = j := by rw [List.length_take, List.length_zipWith, h, h2]; omega
  unfold zipP
  rw [List.getElem?_append_right (by rw [hl]; exact Nat.le_refl _), hl, Nat.sub_self, List.getElem?_drop, Nat.add_zero, hx]
theorem zipP_set (hs s : List Nat) (j x y : Nat) (h : hs.length = 8) (h2 : s.length = 8) (hx : hs[j]? = some x) (hy : s[j]? = some y) : (zipP hs s j).set j (wad x y) = zipP hs s (j + 1) := by
  have hj := (List.getElem?_eq_some_iff.1 hx).1
  have hl : ((List.zipWith wad hs s).take j).length = j := by rw [List.length_take, List.length_zipWith, h, h2]; omega
  have hz : (List.zipWith wad hs s)[j]? = some (wad x y) := by rw [List.getElem?_zipWith, hx, hy]
  unfold zipP
  rw [List.set_append_right _ _ (by rw [hl]; exact Nat.le_refl _), hl, Nat.sub_self, List.drop_eq_getElem_cons (by omega), List.set_cons_zero, List.take_add_one, hz, List.append_assoc]
  rfl
theorem hashC_get (cur : List Nat) (r : Value) (n j x : Nat) (hx : cur[j]? = some x) : (hashC cur r n)[j]? = some (.int .u64 (x : Int)) := by
  unfold hashC
  have hj := (List.getElem?_eq_some_iff.1 hx).1
  rw [List.getElem?_toArray, List.getElem?_append_left (by rw [uvs_len]; exact hj)]
  have := uvs_get hx
  rwa [List.getElem?_toArray] at this
theorem hashC_set (cur : List Nat) (r : Value) (n j y : Nat) (hj : j < cur.length) : (hashC cur r n).setIfInBounds j (.int .u64 (y : Int)) = hashC (cur.set j y) r n := by
  unfold hashC
  rw [List.setIfInBounds_toArray, List.set_append_left _ _ (by rw [uvs_len]; exact hj)]
  congr 2
  have := uvs_set cur j y
  rw [List.setIfInBounds_toArray] at this
  simpa using this
def TkEnd (w0 : World) (M : Nat → Prop) (H : List Chunk) (g6 g5 g4 g : Nat) (hs s ws : List Nat) (r : Value) (n : Nat) (iv : Value) (wr : World) : Prop :=
  ∃ j : Nat, j ≤ 8 ∧ iv = .int .i64 (j : Int) ∧ St w0 M wr (.cells g6 (uvs s).toArray 170 :: .cells g5 kA 181 :: .cells g4 (uvs ws).toArray 181 :: .cells g (hashC (zipP hs s j) r n) 173 :: H)
set_option maxRecDepth 100000 in
set_option maxHeartbeats 1600000 in
theorem takes_any {w0 : World} {M : Nat → Prop} {H : List Chunk} (g : Nat) (hs : List Nat) (r : Value) (n : Nat) (B : Option Addr) (c : Nat) (l : List UInt8) (w : World) (hl8 : hs.length = 8) (hw8 : Words hs) (hl : l.length = 128)
    (hS : St w0 M w (.cells g (hashC hs r n) 173 :: H)) (hr : Rd w (.slice B 128 c) 1 128 (bvs l)) :
    Calls Tryz.prog 131 #[.pointer (some ⟨g, 0, none⟩), .slice B 128 c] w fun e w' => e = .returned (.tuple #[]) ∧ St w0 M w' (.cells g (hashC (comp hs l) r n) 173 :: H) := by
  have HS0 := hide hS
  have HSC := hide (schedule_any B c l w hl hr)
  have HW8 := hide hw8
  have HL8 := hide hl8
  have HWL : Hid ((schL l 80).length = 80) := hide (schL_len l 80)
  have HWW := hide (schL_words l 80)
  unfold comp
  obtain ⟨ws, hws⟩ : ∃ ws, ws = schL l 80 := ⟨_, rfl⟩
  rw [← hws] at HSC HWL HWW ⊢
  clear hS hr hws hl hw8
  obtain ⟨a0, a1, a2, a3, a4, a5, a6, a7, rfl⟩ := list8 hl8
  clear hl8
  go_enter Tryz.func131, Tryz.ntmps131
  go_upto_region 0 with fail
  refine wp_region_list ?_
  refine wl_run rfl (v := .slice B 128 c) rfl ?_
  refine wl_call rfl rfl enSched rfl HSC.out ?_
  rintro e w1 ⟨rfl, hb1⟩
  refine ⟨_, rfl, ?_⟩
  refine wl_call rfl rfl enConst rfl (const1_any w1) ?_
  rintro e w2 ⟨rfl, hb2⟩
  refine ⟨_, rfl, ?_⟩
  have hsz : (uvs ws).toArray.size = 80 := by rw [List.size_toArray, uvs_len, HWL.out]
  (try simp only [Act.put, nq1, nq2, nq3, nq4, nq5, nq6])
  refine wl_allocS rfl (zs := z80) (e := 181) (fun W => alloc80 rfl W) ((HS0.out.call hb1).call hb2) ?_
  intro g4 w3 hS3
  refine wl_allocS rfl (zs := z80) (e := 181) (fun W => alloc80 rfl W) hS3 ?_
  intro g5 w4 hS4
  (try simp only [Act.put, nq1, nq2, nq3, nq4, nq5, nq6])
  refine wl_storeRow rfl rfl hS4 1 rfl rfl rfl (info80 _ hsz) (z80_size.trans hsz.symm) (uvs_all _) ?_
  intro w5 hS5
  refine wl_storeRow rfl rfl hS5 0 rfl rfl rfl (info80 _ kA_size) (z80_size.trans kA_size.symm) kA_all ?_
  intro w6 hS6
  refine wpList_nil ?_
  (try simp only [Act.put, nq1, nq2, nq3, nq4, nq5, nq6])
  replace hS6 : St w0 M w6 (.cells g5 kA 181 :: .cells g4 (uvs ws).toArray 181 :: .cells g (hashC [a0, a1, a2, a3, a4, a5, a6, a7] r n) 173 :: H) := hS6
  have m0 : w6.cell? ⟨g, 0, none⟩ = some (.int .u64 (a0 : Int)) := hS6.cell 2 rfl 0
  have m1 : w6.cell? ⟨g, 1, none⟩ = some (.int .u64 (a1 : Int)) := hS6.cell 2 rfl 1
  have m2 : w6.cell? ⟨g, 2, none⟩ = some (.int .u64 (a2 : Int)) := hS6.cell 2 rfl 2
  have m3 : w6.cell? ⟨g, 3, none⟩ = some (.int .u64 (a3 : Int)) := hS6.cell 2 rfl 3
  have m4 : w6.cell? ⟨g, 4, none⟩ = some (.int .u64 (a4 : Int)) := hS6.cell 2 rfl 4
  have m5 : w6.cell? ⟨g, 5, none⟩ = some (.int .u64 (a5 : Int)) := hS6.cell 2 rfl 5
  have m6 : w6.cell? ⟨g, 6, none⟩ = some (.int .u64 (a6 : Int)) := hS6.cell 2 rfl 6
  have m7 : w6.cell? ⟨g, 7, none⟩ = some (.int .u64 (a7 : Int)) := hS6.cell 2 rfl 7
  have HS6 := hide (hS6.alloc (uvs [a0, a1, a2, a3, a4, a5, a6, a7]).toArray 170)
  clear hS3 hS4 hS5 hS6 hb1 hb2 HS0
  go_wp2_with fail
  clear m0 m1 m2 m3 m4 m5 m6 m7
  generalize w6.heap.size = g6 at HS6 ⊢
  go_loopw [20] (fun i wr => TkRel w0 M H g6 g5 g4 g [a0, a1, a2, a3, a4, a5, a6, a7] ws r n i wr) (fun i _ => 80 - (intOf i).toNat)
  case atStart => exact ⟨0, by omega, rfl, HS6.out⟩
  case round =>
    clear HS6
    obtain ⟨i, hi, rfl, hS⟩ := hrel
    by_cases hlt : i < 80
    · obtain ⟨hl2, hw2⟩ := rnds_ok HL8.out HW8.out ws i
      have HNX : Hid (rnds [a0, a1, a2, a3, a4, a5, a6, a7] ws (i + 1) = rnd (rnds [a0, a1, a2, a3, a4, a5, a6, a7] ws i) (kL.getD i 0) (ws.getD i 0)) := hide rfl
      obtain ⟨b0, b1, b2, b3, b4, b5, b6, b7, hs8⟩ := list8 hl2
      rw [hs8] at hS HNX hw2
      obtain ⟨hk, hkw⟩ := kL_get i hlt
      obtain ⟨x, hx⟩ : ∃ x, ws[i]? = some x := ⟨ws[i]'(by rw [HWL.out]; exact hlt), List.getElem?_eq_getElem _⟩
      have hxw := HWW.out x (List.mem_of_getElem? hx)
      rw [show ws.getD i 0 = x from by rw [List.getD_eq_getElem?_getD, hx]; rfl] at HNX
      generalize kL.getD i 0 = k at hk hkw HNX
      have HS := hide hS.drew
      have e0 : b0 < W1 := hw2 _ (by simp)
      have e1 : b1 < W1 := hw2 _ (by simp)
      have e2 : b2 < W1 := hw2 _ (by simp)
      have e3 : b3 < W1 := hw2 _ (by simp)
      have e4 : b4 < W1 := hw2 _ (by simp)
      have e5 : b5 < W1 := hw2 _ (by simp)
      have e6 : b6 < W1 := hw2 _ (by simp)
      have e7 : b7 < W1 := hw2 _ (by simp)
      have n0 : wr.cell? ⟨g6, 0, none⟩ = some (.int .u64 (b0 : Int)) := hS.cell 0 rfl 0
      have n1 : wr.cell? ⟨g6, 1, none⟩ = some (.int .u64 (b1 : Int)) := hS.cell 0 rfl 1
      have n2 : wr.cell? ⟨g6, 2, none⟩ = some (.int .u64 (b2 : Int)) := hS.cell 0 rfl 2
      have n3 : wr.cell? ⟨g6, 3, none⟩ = some (.int .u64 (b3 : Int)) := hS.cell 0 rfl 3
      have n4 : wr.cell? ⟨g6, 4, none⟩ = some (.int .u64 (b4 : Int)) := hS.cell 0 rfl 4
      have n5 : wr.cell? ⟨g6, 5, none⟩ = some (.int .u64 (b5 : Int)) := hS.cell 0 rfl 5
      have n6 : wr.cell? ⟨g6, 6, none⟩ = some (.int .u64 (b6 : Int)) := hS.cell 0 rfl 6
      have n7 : wr.cell? ⟨g6, 7, none⟩ = some (.int .u64 (b7 : Int)) := hS.cell 0 rfl 7
      have f0 := hS.free 0 rfl 0
      have f1 := hS.free 0 rfl 1
      have f2 := hS.free 0 rfl 2
      have f3 := hS.free 0 rfl 3
      have f4 := hS.free 0 rfl 4
      have f5 := hS.free 0 rfl 5
      have f6 := hS.free 0 rfl 6
      have f7 := hS.free 0 rfl 7
      have p0 : ∀ z, From wr.drew z → z.cell? ⟨g6, 0, none⟩ = some (.int .u64 (b0 : Int)) := fun z hz => by rw [hz.cell (p := ⟨g6, 0, none⟩) (Chunk.lt (HS.out.sat 0 _ rfl) rfl)]; exact HS.out.cell 0 rfl 0
      have p1 : ∀ z, From wr.drew z → z.cell? ⟨g6, 1, none⟩ = some (.int .u64 (b1 : Int)) := fun z hz => by rw [hz.cell (p := ⟨g6, 1, none⟩) (Chunk.lt (HS.out.sat 0 _ rfl) rfl)]; exact HS.out.cell 0 rfl 1
      have p2 : ∀ z, From wr.drew z → z.cell? ⟨g6, 2, none⟩ = some (.int .u64 (b2 : Int)) := fun z hz => by rw [hz.cell (p := ⟨g6, 2, none⟩) (Chunk.lt (HS.out.sat 0 _ rfl) rfl)]; exact HS.out.cell 0 rfl 2
      have p3 : ∀ z, From wr.drew z → z.cell? ⟨g6, 3, none⟩ = some (.int .u64 (b3 : Int)) := fun z hz => by rw [hz.cell (p := ⟨g6, 3, none⟩) (Chunk.lt (HS.out.sat 0 _ rfl) rfl)]; exact HS.out.cell 0 rfl 3
      have p4 : ∀ z, From wr.drew z → z.cell? ⟨g6, 4, none⟩ = some (.int .u64 (b4 : Int)) := fun z hz => by rw [hz.cell (p := ⟨g6, 4, none⟩) (Chunk.lt (HS.out.sat 0 _ rfl) rfl)]; exact HS.out.cell 0 rfl 4
      have p5 : ∀ z, From wr.drew z → z.cell? ⟨g6, 5, none⟩ = some (.int .u64 (b5 : Int)) := fun z hz => by rw [hz.cell (p := ⟨g6, 5, none⟩) (Chunk.lt (HS.out.sat 0 _ rfl) rfl)]; exact HS.out.cell 0 rfl 5
      have p6 : ∀ z, From wr.drew z → z.cell? ⟨g6, 6, none⟩ = some (.int .u64 (b6 : Int)) := fun z hz => by rw [hz.cell (p := ⟨g6, 6, none⟩) (Chunk.lt (HS.out.sat 0 _ rfl) rfl)]; exact HS.out.cell 0 rfl 6
      have p7 : ∀ z, From wr.drew z → z.cell? ⟨g6, 7, none⟩ = some (.int .u64 (b7 : Int)) := fun z hz => by rw [hz.cell (p := ⟨g6, 7, none⟩) (Chunk.lt (HS.out.sat 0 _ rfl) rfl)]; exact HS.out.cell 0 rfl 7
      have ck : ∀ z, From wr.drew z → z.cell? ⟨g5, i, none⟩ = some (.int .u64 (k : Int)) := fun z hz => by
        rw [hz.cell (p := ⟨g5, i, none⟩) (Chunk.lt (HS.out.sat 1 _ rfl) rfl), HS.out.cell 1 rfl i]
        unfold kA
        exact uvs_get hk
      have cx : ∀ z, From wr.drew z → z.cell? ⟨g4, i, none⟩ = some (.int .u64 (x : Int)) := fun z hz => by
        rw [hz.cell (p := ⟨g4, i, none⟩) (Chunk.lt (HS.out.sat 2 _ rfl) rfl), HS.out.cell 2 rfl i]
        exact uvs_get hx
      have dk : decide ((i : Int) < 80) = true := by simp; omega
      have ik : (i : Int) < 80 := by omega
      have hmx : IntKind.u64.max = ((18446744073709551615 : Nat) : Int) := rfl
      have x1 := u64_and_nat b4 b5 e4 e5
      have x2 : bits .xor .u64 IntKind.u64.max (b4 : Int) = ((18446744073709551615 ^^^ b4 : Nat) : Int) := by rw [hmx]; exact u64_xor_nat 18446744073709551615 b4 (by decide) e4
      have l2 : 18446744073709551615 ^^^ b4 < W1 := xor_lt _ _ (by decide) e4
      have x3 := u64_and_nat (18446744073709551615 ^^^ b4) b6 l2 e6
      have x4 := u64_xor_nat (b4 &&& b5) ((18446744073709551615 ^^^ b4) &&& b6) (and_lt _ _ e4) (and_lt _ _ l2)
      have y1 := u64_and_nat b0 b1 e0 e1
      have y2 := u64_and_nat b0 b2 e0 e2
      have y3 := u64_and_nat b1 b2 e1 e2
      have y4 := u64_xor_nat (b0 &&& b1) (b0 &&& b2) (and_lt _ _ e0) (and_lt _ _ e0)
      have y5 := u64_xor_nat ((b0 &&& b1) ^^^ (b0 &&& b2)) (b1 &&& b2) (xor_lt _ _ (and_lt _ _ e0) (and_lt _ _ e0)) (and_lt _ _ e1)
      have ech : ((b4 &&& b5) ^^^ ((18446744073709551615 ^^^ b4) &&& b6)) = chz b4 b5 b6 := rfl
      have emj : (((b0 &&& b1) ^^^ (b0 &&& b2)) ^^^ (b1 &&& b2)) = mjr b0 b1 b2 := rfl
      rw [ech] at x4
      rw [emj] at y5
      have HM1 := hide (fun W => mixes_any b4 14 18 41 W e4 (by decide) (by decide) (by decide))
      have HM2 := hide (fun W => mixes_any b0 28 34 39 W e0 (by decide) (by decide) (by decide))
      simp only [rnd] at HNX
      clear ech emj hmx
      generalize (18446744073709551615 ^^^ b4) &&& b6 = q3 at *
      generalize 18446744073709551615 ^^^ b4 = q2 at *
      generalize b4 &&& b5 = q1 at *
      generalize (b0 &&& b1) ^^^ (b0 &&& b2) = r4 at *
      generalize b0 &&& b1 = r1 at *
      generalize b0 &&& b2 = r2 at *
      generalize b1 &&& b2 = r3 at *
      generalize chz b4 b5 b6 = ch at *
      generalize mjr b0 b1 b2 = mj at *
      generalize mix b4 14 18 41 = m1 at *
      generalize mix b0 28 34 39 = m2 at *
      have w1 := wad_wrap b7 m1
      have w2 := wad_wrap (wad b7 m1) ch
      have w3 := wad_wrap (wad (wad b7 m1) ch) k
      have w4 := wad_wrap (wad (wad (wad b7 m1) ch) k) x
      have w5 := wad_wrap m2 mj
      have w6 := wad_wrap (wad (wad (wad (wad b7 m1) ch) k) x) (wad m2 mj)
      have w7 := wad_wrap b3 (wad (wad (wad (wad b7 m1) ch) k) x)
      generalize wad (wad (wad (wad (wad b7 m1) ch) k) x) (wad m2 mj) = z0 at *
      generalize wad b3 (wad (wad (wad (wad b7 m1) ch) k) x) = z4 at *
      generalize wad (wad (wad (wad b7 m1) ch) k) x = t1 at *
      generalize wad (wad (wad b7 m1) ch) k = u3 at *
      generalize wad (wad b7 m1) ch = u2 at *
      generalize wad b7 m1 = u1 at *
      generalize wad m2 mj = t2 at *
      have HSW := hide hS
      clear hs8 hl2 hk hx hS e0 e1 e2 e3 e4 e5 e6 e7 hxw hkw hw2 l2
      go_wp2_with fail
      refine wp_region_F (by kernel_rfl) ?_
      (refine wpG_take (i := 0) (v := ?_) rfl (by kernel_rfl) (by kernel_rfl) (by kernel_rfl) (fun _ _ _ h => h) ((From.refl wr.drew)) (Or.inl ⟨by first | kernel_rfl | rfl, ?_⟩) ?_; rotate_left; (intro wx hx; go_simp) <;> (with_reducible rfl); (try simp only [Act.put, nq1, nq2, nq3, nq4, nq5, nq6])); (refine wpG_take (i := 1) (v := ?_) rfl (by kernel_rfl) (by kernel_rfl) (by kernel_rfl) (fun _ _ _ h => h) ((From.refl wr.drew)) (Or.inl ⟨by first | kernel_rfl | rfl, ?_⟩) ?_; rotate_left; (intro wx hx; go_simp) <;> (with_reducible rfl); (try simp only [Act.put, nq1, nq2, nq3, nq4, nq5, nq6])); (refine wpG_take (i := 2) (v := ?_) rfl (by kernel_rfl) (by kernel_rfl) (by kernel_rfl) (fun _ _ _ h => h) ((From.refl wr.drew)) (Or.inl ⟨by first | kernel_rfl | rfl, ?_⟩) ?_; rotate_left; (intro wx hx; go_simp) <;> (with_reducible rfl); (try simp only [Act.put, nq1, nq2, nq3, nq4, nq5, nq6])); (refine wpG_take (i := 3) (v := ?_) rfl (by kernel_rfl) (by kernel_rfl) (by kernel_rfl) (fun _ _ _ h => h) ((From.refl wr.drew)) (Or.inl ⟨by first | kernel_rfl | rfl, ?_⟩) ?_; rotate_left; (intro wx hx; go_simp) <;> (with_reducible rfl); (try simp only [Act.put, nq1, nq2, nq3, nq4, nq5, nq6])); (refine wpG_take (i := 6) (v := ?_) rfl (by kernel_rfl) (by kernel_rfl) (by kernel_rfl) (fun _ _ _ h => h) ((From.refl wr.drew)) (Or.inl ⟨by first | kernel_rfl | rfl, ?_⟩) ?_; rotate_left; (intro wx hx; go_simp) <;> (with_reducible rfl); (try simp only [Act.put, nq1, nq2, nq3, nq4, nq5, nq6])); (refine wpG_take (i := 8) (v := ?_) rfl (by kernel_rfl) (by kernel_rfl) (by kernel_rfl) (fun _ _ _ h => h) ((From.refl wr.drew)) (Or.inl ⟨by first | kernel_rfl | rfl, ?_⟩) ?_; rotate_left; (intro wx hx; go_simp) <;> (with_reducible rfl); (try simp only [Act.put, nq1, nq2, nq3, nq4, nq5, nq6])); (refine wpG_take (i := 9) (v := ?_) rfl (by kernel_rfl) (by kernel_rfl) (by kernel_rfl) (fun _ _ _ h => h) ((From.refl wr.drew)) (Or.inl ⟨by first | kernel_rfl | rfl, ?_⟩) ?_; rotate_left; (intro wx hx; go_simp) <;> (with_reducible rfl); (try simp only [Act.put, nq1, nq2, nq3, nq4, nq5, nq6])); (refine wpG_take (i := 10) (v := ?_) rfl (by kernel_rfl) (by kernel_rfl) (by kernel_rfl) (fun _ _ _ h => h) ((From.refl wr.drew)) (Or.inl ⟨by first | kernel_rfl | rfl, ?_⟩) ?_; rotate_left; (intro wx hx; go_simp) <;> (with_reducible rfl); (try simp only [Act.put, nq1, nq2, nq3, nq4, nq5, nq6])); (refine wpG_take (i := 12) (v := ?_) rfl (by kernel_rfl) (by kernel_rfl) (by kernel_rfl) (fun _ _ _ h => h) ((From.refl wr.drew)) (Or.inl ⟨by first | kernel_rfl | rfl, ?_⟩) ?_; rotate_left; (intro wx hx; go_simp) <;> (with_reducible rfl); (try simp only [Act.put, nq1, nq2, nq3, nq4, nq5, nq6])); (refine wpG_take (i := 13) (v := ?_) rfl (by kernel_rfl) (by kernel_rfl) (by kernel_rfl) (fun _ _ _ h => h) ((From.refl wr.drew)) (Or.inl ⟨by first | kernel_rfl | rfl, ?_⟩) ?_; rotate_left; (intro wx hx; go_simp) <;> (with_reducible rfl); (try simp only [Act.put, nq1, nq2, nq3, nq4, nq5, nq6])); (refine wpG_take (i := 14) (v := ?_) rfl (by kernel_rfl) (by kernel_rfl) (by kernel_rfl) (fun _ _ _ h => h) ((From.refl wr.drew)) (Or.inl ⟨by first | kernel_rfl | rfl, ?_⟩) ?_; rotate_left; (intro wx hx; go_simp) <;> (with_reducible rfl); (try simp only [Act.put, nq1, nq2, nq3, nq4, nq5, nq6]))
      (refine wpG_one (i := 4) (by kernel_rfl) rfl ?_; intro K hK; (try simp only [Act.put, nq1, nq2, nq3, nq4, nq5, nq6]))
      refine step_call rfl rfl enMixes rfl (HM1.out _) ?_
      rintro e v1 ⟨rfl, rfl⟩
      refine ⟨_, rfl, hK (From wr.drew) _ _ (fun _ h => h) (From.refl wr.drew) ?_⟩
      clear hK K
      (try simp only [Act.put, nq1, nq2, nq3, nq4, nq5, nq6])
      (refine wpG_take (i := 5) (v := ?_) rfl (by kernel_rfl) (by kernel_rfl) (by kernel_rfl) (fun _ _ _ h => h) ((From.refl wr.drew)) (Or.inl ⟨by first | kernel_rfl | rfl, ?_⟩) ?_; rotate_left; (intro wx hx; go_simp) <;> (with_reducible rfl); (try simp only [Act.put, nq1, nq2, nq3, nq4, nq5, nq6])); (refine wpG_take (i := 7) (v := ?_) rfl (by kernel_rfl) (by kernel_rfl) (by kernel_rfl) (fun _ _ _ h => h) ((From.refl wr.drew)) (Or.inl ⟨by first | kernel_rfl | rfl, ?_⟩) ?_; rotate_left; (intro wx hx; go_simp) <;> (with_reducible rfl); (try simp only [Act.put, nq1, nq2, nq3, nq4, nq5, nq6])); (refine wpG_take (i := 11) (v := ?_) rfl (by kernel_rfl) (by kernel_rfl) (by kernel_rfl) (fun _ _ _ h => h) ((From.refl wr.drew)) (Or.inl ⟨by first | kernel_rfl | rfl, ?_⟩) ?_; rotate_left; (intro wx hx; go_simp) <;> (with_reducible rfl); (try simp only [Act.put, nq1, nq2, nq3, nq4, nq5, nq6])); (refine wpG_take (i := 15) (v := ?_) rfl (by kernel_rfl) (by kernel_rfl) (by kernel_rfl) (fun _ _ _ h => h) ((From.refl wr.drew)) (Or.inl ⟨by first | kernel_rfl | rfl, ?_⟩) ?_; rotate_left; (intro wx hx; go_simp) <;> (with_reducible rfl); (try simp only [Act.put, nq1, nq2, nq3, nq4, nq5, nq6])); (refine wpG_take (i := 16) (v := ?_) rfl (by kernel_rfl) (by kernel_rfl) (by kernel_rfl) (fun _ _ _ h => h) ((From.refl wr.drew)) (Or.inl ⟨by first | kernel_rfl | rfl, ?_⟩) ?_; rotate_left; (intro wx hx; go_simp) <;> (with_reducible rfl); (try simp only [Act.put, nq1, nq2, nq3, nq4, nq5, nq6]))
      refine wpG_done (by kernel_rfl) ?_ _
      clear p0 p1 p2 p3 p4 p5 p6 p7 ck cx
      go_upto_region 9 with (go_at_call 164; refine (HM2.out _).mono ?_; rintro e v2 ⟨rfl, rfl⟩)
      go_wp2_with fail
      go_roundw
      case rel =>
        have h3 := ((((((((HSW.out.setCell 0 rfl 0 (.int .u64 (z0 : Int))).setCell 0 rfl 1 (.int .u64 (b0 : Int))).setCell 0 rfl 2 (.int .u64 (b1 : Int))).setCell 0 rfl 3 (.int .u64 (b2 : Int))).setCell 0 rfl 4 (.int .u64 (z4 : Int))).setCell 0 rfl 5 (.int .u64 (b4 : Int))).setCell 0 rfl 6 (.int .u64 (b5 : Int))).setCell 0 rfl 7 (.int .u64 (b6 : Int))).drew
        simp only [List.set_cons_zero, uvs_set, List.set_cons_succ] at h3
        rw [← HNX.out] at h3
        exact ⟨i + 1, by omega, by go_num, h3⟩
      case measure => (simp [intOf]) <;> omega
    · obtain rfl : i = 80 := by omega
      obtain ⟨hl2, hw2⟩ := rnds_ok HL8.out HW8.out ws 80
      obtain ⟨s, hs⟩ : ∃ s, s = rnds [a0, a1, a2, a3, a4, a5, a6, a7] ws 80 := ⟨_, rfl⟩
      rw [← hs] at hS hl2 hw2
      have HSS := hide hs
      have HL2 := hide hl2
      have HS := hide hS
      clear hs hS hl2 hw2
      obtain ⟨hs0, hhs0⟩ : ∃ l, l = [a0, a1, a2, a3, a4, a5, a6, a7] := ⟨_, rfl⟩
      have HHS := hide hhs0
      go_wp2_with fail
      go_loopw [94] (fun i wr => TkEnd w0 M H g6 g5 g4 g [a0, a1, a2, a3, a4, a5, a6, a7] s ws r n i wr) (fun i _ => 8 - (intOf i).toNat)
      case atStart => exact ⟨0, by omega, rfl, HS.out⟩
      case round =>
        clear HS
        obtain ⟨j, hj, rfl, hS⟩ := hrel
        rw [← hhs0] at hS HL8 HSS
        by_cases hlt : j < 8
        · obtain ⟨x, hx⟩ : ∃ x, hs0[j]? = some x := ⟨hs0[j]'(by rw [HL8.out]; exact hlt), List.getElem?_eq_getElem _⟩
          obtain ⟨y, hy⟩ : ∃ y, s[j]? = some y := ⟨s[j]'(by rw [HL2.out]; exact hlt), List.getElem?_eq_getElem _⟩
          have HS := hide hS.drew
          have cx : ∀ z, From wr.drew z → z.cell? ⟨g, j, none⟩ = some (.int .u64 (x : Int)) := fun z hz => by
            rw [hz.cell (p := ⟨g, j, none⟩) (Chunk.lt (HS.out.sat 3 _ rfl) rfl), HS.out.cell 3 rfl j]
            exact hashC_get _ _ _ _ _ (zipP_get _ _ _ _ HL8.out HL2.out hx)
          have cy : ∀ z, From wr.drew z → z.cell? ⟨g6, j, none⟩ = some (.int .u64 (y : Int)) := fun z hz => by
            rw [hz.cell (p := ⟨g6, j, none⟩) (Chunk.lt (HS.out.sat 0 _ rfl) rfl), HS.out.cell 0 rfl j]
            exact uvs_get hy
          have HT := hide (zipP_set _ _ _ _ _ HL8.out HL2.out hx hy)
          have HZL := hide (zipP_len hs0 s j HL8.out HL2.out hj)
          have hwd := wad_wrap x y
          have dk : decide ((j : Int) < 8) = true := by simp; omega
          have ik : (j : Int) < 8 := by omega
          generalize wad x y = z at *
          clear hhs0 hS hx hy
          go_wp2_with fail
          refine wp_region_M (fun i => i == 13) (From wr.drew) (by kernel_rfl) ?_
          (refine wpM_takeU (i := 0) (v := ?_) rfl (by kernel_rfl) (by kernel_rfl) (by kernel_rfl) (fun _ _ _ h => h) ((From.refl wr.drew)) rfl (Or.inl ⟨by first | kernel_rfl | rfl, ?_⟩) ?_; rotate_left; (intro wx; go_simp) <;> (with_reducible rfl); (try simp only [Act.put, nq1, nq2, nq3, nq4, nq5, nq6])); (refine wpM_takeU (i := 1) (v := ?_) rfl (by kernel_rfl) (by kernel_rfl) (by kernel_rfl) (fun _ _ _ h => h) ((From.refl wr.drew)) rfl (Or.inl ⟨by first | kernel_rfl | rfl, ?_⟩) ?_; rotate_left; (intro wx; go_simp) <;> (with_reducible rfl); (try simp only [Act.put, nq1, nq2, nq3, nq4, nq5, nq6])); (refine wpM_takeU (i := 2) (v := ?_) rfl (by kernel_rfl) (by kernel_rfl) (by kernel_rfl) (fun _ _ _ h => h) ((From.refl wr.drew)) rfl (Or.inl ⟨by first | kernel_rfl | rfl, ?_⟩) ?_; rotate_left; (intro wx; go_simp) <;> (with_reducible rfl); (try simp only [Act.put, nq1, nq2, nq3, nq4, nq5, nq6])); (refine wpM_takeU (i := 3) (v := ?_) rfl (by kernel_rfl) (by kernel_rfl) (by kernel_rfl) (fun _ _ _ h => h) ((From.refl wr.drew)) rfl (Or.inl ⟨by first | kernel_rfl | rfl, ?_⟩) ?_; rotate_left; (intro wx; go_simp) <;> (with_reducible rfl); (try simp only [Act.put, nq1, nq2, nq3, nq4, nq5, nq6])); (refine wpM_takeU (i := 4) (v := ?_) rfl (by kernel_rfl) (by kernel_rfl) (by kernel_rfl) (fun _ _ _ h => h) ((From.refl wr.drew)) rfl (Or.inl ⟨by first | kernel_rfl | rfl, ?_⟩) ?_; rotate_left; (intro wx; go_simp) <;> (with_reducible rfl); (try simp only [Act.put, nq1, nq2, nq3, nq4, nq5, nq6]))
          (refine wpM_take (i := 5) (v := ?_) rfl (by kernel_rfl) (by kernel_rfl) (by kernel_rfl) (fun _ _ _ h => h) ((From.refl wr.drew)) rfl (by kernel_rfl) (Or.inl ⟨by first | kernel_rfl | rfl, ?_⟩) ?_; rotate_left; (intro wx hx; go_simp) <;> (with_reducible rfl); (try simp only [Act.put, nq1, nq2, nq3, nq4, nq5, nq6]))
          (refine wpM_takeU (i := 6) (v := ?_) rfl (by kernel_rfl) (by kernel_rfl) (by kernel_rfl) (fun _ _ _ h => h) ((From.refl wr.drew)) rfl (Or.inl ⟨by first | kernel_rfl | rfl, ?_⟩) ?_; rotate_left; (intro wx; go_simp) <;> (with_reducible rfl); (try simp only [Act.put, nq1, nq2, nq3, nq4, nq5, nq6])); (refine wpM_takeU (i := 7) (v := ?_) rfl (by kernel_rfl) (by kernel_rfl) (by kernel_rfl) (fun _ _ _ h => h) ((From.refl wr.drew)) rfl (Or.inl ⟨by first | kernel_rfl | rfl, ?_⟩) ?_; rotate_left; (intro wx; go_simp) <;> (with_reducible rfl); (try simp only [Act.put, nq1, nq2, nq3, nq4, nq5, nq6]))
          (refine wpM_take (i := 8) (v := ?_) rfl (by kernel_rfl) (by kernel_rfl) (by kernel_rfl) (fun _ _ _ h => h) ((From.refl wr.drew)) rfl (by kernel_rfl) (Or.inl ⟨by first | kernel_rfl | rfl, ?_⟩) ?_; rotate_left; (intro wx hx; go_simp) <;> (with_reducible rfl); (try simp only [Act.put, nq1, nq2, nq3, nq4, nq5, nq6]))
          (refine wpM_takeU (i := 9) (v := ?_) rfl (by kernel_rfl) (by kernel_rfl) (by kernel_rfl) (fun _ _ _ h => h) ((From.refl wr.drew)) rfl (Or.inl ⟨by first | kernel_rfl | rfl, ?_⟩) ?_; rotate_left; (intro wx; go_simp) <;> (with_reducible rfl); (try simp only [Act.put, nq1, nq2, nq3, nq4, nq5, nq6])); (refine wpM_takeU (i := 10) (v := ?_) rfl (by kernel_rfl) (by kernel_rfl) (by kernel_rfl) (fun _ _ _ h => h) ((From.refl wr.drew)) rfl (Or.inl ⟨by first | kernel_rfl | rfl, ?_⟩) ?_; rotate_left; (intro wx; go_simp) <;> (with_reducible rfl); (try simp only [Act.put, nq1, nq2, nq3, nq4, nq5, nq6])); (refine wpM_takeU (i := 11) (v := ?_) rfl (by kernel_rfl) (by kernel_rfl) (by kernel_rfl) (fun _ _ _ h => h) ((From.refl wr.drew)) rfl (Or.inl ⟨by first | kernel_rfl | rfl, ?_⟩) ?_; rotate_left; (intro wx; go_simp) <;> (with_reducible rfl); (try simp only [Act.put, nq1, nq2, nq3, nq4, nq5, nq6])); (refine wpM_takeU (i := 12) (v := ?_) rfl (by kernel_rfl) (by kernel_rfl) (by kernel_rfl) (fun _ _ _ h => h) ((From.refl wr.drew)) rfl (Or.inl ⟨by first | kernel_rfl | rfl, ?_⟩) ?_; rotate_left; (intro wx; go_simp) <;> (with_reducible rfl); (try simp only [Act.put, nq1, nq2, nq3, nq4, nq5, nq6]))
          (refine wpM_late (i := 13) (by kernel_rfl) rfl rfl ?_; intro K hK; (try simp only [Act.put, nq1, nq2, nq3, nq4, nq5, nq6]))
          refine step_store rfl rfl tyU64 HS.out 3 rfl j (by unfold hashC; rw [List.size_toArray, List.length_append, uvs_len, HZL.out]; show j < 10; omega) rfl (v := .int .u64 (z : Int)) (by first | rfl | exact congrArg (Value.int .u64) hwd) rfl ?_
          intro w9 hS9
          refine hK _ _ ?_
          clear hK K
          (try simp only [Act.put, nq1, nq2, nq3, nq4, nq5, nq6])
          refine wpAny_done (by kernel_rfl) ?_ _
          go_wp2_with fail
          go_roundw
          case rel =>
            have ht := HT.out
            rw [hashC_set _ _ _ _ _ (by rw [HZL.out]; exact hlt), ht] at hS9
            rw [HHS.out] at hS9
            exact ⟨j + 1, by omega, by go_num, hS9⟩
          case measure => (simp [intOf]) <;> omega
        · obtain rfl : j = 8 := by omega
          have hz : zipP hs0 s 8 = List.zipWith wad hs0 s := by
            unfold zipP
            rw [List.take_of_length_le (by rw [List.length_zipWith, HL8.out, HL2.out]; decide), List.drop_eq_nil_of_le (by rw [HL8.out]; exact Nat.le_refl _), List.append_nil]
          rw [hz, HSS.out] at hS
          have HS := hide (hS.pick3)
          clear hS hz hhs0
          go_wp2_with fail
          go_end0
          rw [← HHS.out]
          exact ⟨rfl, HS.out⟩
end Go.Proofs.YtnohmgpmmhlloaaGreatDoor.S1

namespace Go.Proofs.YtnohmgpmmhlloaaGreatDoor.S1
open Go.RowKit
set_option linter.unusedSimpArgs false

def runN : List Nat → Nat → List UInt8 → List Nat
  | h, 0, _ => h
  | h, k + 1, l => runN (comp h (l.take 128)) k (l.drop 128)
theorem runN_ok : ∀ (k : Nat) (h : List Nat) (l : List UInt8), h.length = 8 → Words h → (runN h k l).length = 8 ∧ Words (runN h k l)
  | 0, h, l, h1, h2 => ⟨h1, h2⟩
  | k + 1, h, l, h1, h2 => by
    obtain ⟨a, b⟩ := comp_ok h1 h2 (l.take 128)
    exact runN_ok k _ _ a b
theorem runN_snoc : ∀ (k : Nat) (h : List Nat) (l : List UInt8), runN h (k + 1) l = comp (runN h k l) ((l.drop (128 * k)).take 128)
  | 0, h, l => by simp [runN]
  | k + 1, h, l => by
    have := runN_snoc k (comp h (l.take 128)) (l.drop 128)
    rw [runN, this, runN, List.drop_drop, show 128 + 128 * k = 128 * (k + 1) from by omega]
theorem runN_append : ∀ (k : Nat) (h : List Nat) (l m : List UInt8), 128 * k ≤ l.length → runN h k (l ++ m) = runN h k l
  | 0, _, _, _, _ => rfl
  | k + 1, h, l, m, hk => by
    rw [runN, runN, List.take_append_of_le_length (by omega), List.drop_append_of_le_length (by omega), runN_append k _ _ _ (by rw [List.length_drop]; omega)]
theorem runN_add : ∀ (j k : Nat) (h : List Nat) (l : List UInt8), runN (runN h j l) k (l.drop (128 * j)) = runN h (j + k) l
  | 0, k, h, l => by simp [runN]
  | j + 1, k, h, l => by
    have := runN_add j k (comp h (l.take 128)) (l.drop 128)
    rw [List.drop_drop, show 128 + 128 * j = 128 * (j + 1) from by omega] at this
    rw [runN, this, show j + 1 + k = (j + k) + 1 from by omega, runN]
def stO (l : List UInt8) : List Nat := runN h0L (l.length / 128) l
def rsO (l : List UInt8) : List UInt8 := l.drop (128 * (l.length / 128))
theorem stO_ok (l : List UInt8) : (stO l).length = 8 ∧ Words (stO l) := runN_ok _ _ _ h0_ok.1 h0_ok.2
theorem rsO_len (l : List UInt8) : (rsO l).length = l.length % 128 := by unfold rsO; rw [List.length_drop]; omega
theorem stO_append (l m : List UInt8) : runN (stO l) (((rsO l) ++ m).length / 128) (rsO l ++ m) = stO (l ++ m) := by
  have h1 : rsO l ++ m = (l ++ m).drop (128 * (l.length / 128)) := by unfold rsO; rw [List.drop_append_of_le_length (by omega)]
  have h2 : stO l = runN h0L (l.length / 128) (l ++ m) := by unfold stO; rw [runN_append _ _ _ _ (by omega)]
  rw [h2, h1, runN_add]
  unfold stO
  rw [List.length_drop]
  congr 1
  rw [List.length_append]
  omega
theorem rsO_append (l m : List UInt8) : (rsO l ++ m).drop (128 * ((rsO l ++ m).length / 128)) = rsO (l ++ m) := by
  have h1 : rsO l ++ m = (l ++ m).drop (128 * (l.length / 128)) := by unfold rsO; rw [List.drop_append_of_le_length (by omega)]
  rw [h1, List.drop_drop, List.length_drop]
  unfold rsO
  congr 1
  rw [List.length_append]
  omega
theorem rd_setCell {w : World} {g o m : Nat} {y v : Value} {xs : List Value} (h : Rd w y 1 m xs) (hne : 0 < m → y.ownBlock ≠ some g) : Rd (w.setCell ⟨g, o, none⟩ v) y 1 m xs := by
  by_cases hm : 0 < m
  · exact h.keep (by simp) (fun b _ e => (ext_setCell w ⟨g, o, none⟩ v).block b (by assumption) (fun x => hne hm (e.trans x.symm)))
  · obtain ⟨A, c, rfl, h1, h2, h3, h4, h5⟩ := h
    have hx : xs = [] := List.eq_nil_of_length_eq_zero (by omega)
    subst hx
    exact ⟨A, c, rfl, h1, h2, h3, h4, fun b o sp hA => ⟨fun h => by omega, fun j u hu => by simp at hu⟩⟩
theorem wl_append0z {P : Program} {w0 w : World} {M : Nat → Prop} {H : List Chunk} {ops : Array Oper} {rest : List Oper} {o : Oper} {a : Act} {Q : Exit → Act → World → Prop} (hgd : o.guard = none) {s x : Operand} {t e : TypeId} {bytes : Nat}
    (ho : o.op = .call { callee := .builtin .append, args := #[s, x], argTypes := #[t, t] }) (T : RowTy P t e 1 bytes)
    (hS : St w0 M w H) (hs : a.eval s = .slice none 0 0) {A : Addr} {n c : Nat} (hx : a.eval x = .slice (some A) n c) (hn : n = 0) (hc : n ≤ c) (hm : c ≤ maxLen) (hby : bytes ≤ 32768)
    (h : ∀ A' c' w', St w0 M w' (.row (.slice A' 0 c') e 1 0 [] :: H) → wpList P ops Q rest (a.put o.dst (.slice A' 0 c')) w') : wpList P ops Q (o :: rest) a w := by
  subst hn
  exact wl_append0 hgd ho T hS hs hx ⟨_, _, rfl, rfl, hc, hm, (fun h => by cases h), fun b' o' sp' h => ⟨fun h => by omega, fun j u hu => by simp at hu⟩⟩ (fun u hu => by cases hu) (by omega) hby h
def WrRel (w0 : World) (M : Nat → Prop) (H : List Chunk) (g : Nat) (hs : List Nat) (A : Option Addr) (c N n k : Nat) (all : List UInt8) (iv : Value) (wr : World) : Prop :=
  ∃ i : Nat, i ≤ k ∧ iv = .int .i64 (i : Int) ∧ St w0 M wr (.cells g (hashC (runN hs i all) (.slice A N c) n) 173 :: .row (.slice A N c) 5 1 N (bvs all) :: H)
theorem hashC_eight {hs : List Nat} {r : Value} {n : Nat} (h : hs.length = 8) : (hashC hs r n)[8]? = some r := by
  obtain ⟨a0, a1, a2, a3, a4, a5, a6, a7, rfl⟩ := list8 h
  rfl
theorem hashC_nine {hs : List Nat} {r : Value} {n : Nat} (h : hs.length = 8) : (hashC hs r n)[9]? = some (.int .u64 (n : Int)) := by
  obtain ⟨a0, a1, a2, a3, a4, a5, a6, a7, rfl⟩ := list8 h
  rfl
theorem hashC_set9 {hs : List Nat} {r : Value} {n m : Nat} (h : hs.length = 8) : (hashC hs r n).setIfInBounds 9 (.int .u64 (m : Int)) = hashC hs r m := by
  obtain ⟨a0, a1, a2, a3, a4, a5, a6, a7, rfl⟩ := list8 h
  rfl
theorem hashC_set8 {hs : List Nat} {r r' : Value} {n : Nat} (h : hs.length = 8) : (hashC hs r n).setIfInBounds 8 r' = hashC hs r' n := by
  obtain ⟨a0, a1, a2, a3, a4, a5, a6, a7, rfl⟩ := list8 h
  rfl
set_option maxRecDepth 100000 in
set_option maxHeartbeats 1600000 in
theorem write_any {w0 : World} {M : Nat → Prop} {H : List Chunk} (g : Nat) (hs : List Nat) (A : Option Addr) (c r n : Nat) (rest : List UInt8) (B : Option Addr) (cb m : Nat) (l : List UInt8) (w : World) (all : List UInt8) (k t : Nat)
    (hl8 : hs.length = 8) (hw8 : Words hs) (hrl : rest.length = r) (hl : l.length = m) (hn : n + m ≤ 1000000) (hr0 : r ≤ 127) (hall : rest ++ l = all) (hk : all.length / 128 = k) (ht : all.length % 128 = t)
    (hS : St w0 M w (.cells g (hashC hs (.slice A r c) n) 173 :: .row (.slice A r c) 5 1 r (bvs rest) :: H)) (hr : Rd w (.slice B m cb) 1 m (bvs l)) (hne : 0 < m → (Value.slice B m cb).ownBlock ≠ some g) :
    Calls Tryz.prog 96 #[.pointer (some ⟨g, 0, none⟩), .slice B m cb] w fun e w' => e = .returned (.tuple #[]) ∧ ∃ A' c', St w0 M w' (.cells g (hashC (runN hs k all) (.slice A' t c') (n + m)) 173 :: .row (.slice A' t c') 5 1 t (bvs (all.drop (128 * k))) :: H) := by
  have c9 : w.cell? ⟨g, 9, none⟩ = some (.int .u64 (n : Int)) := by rw [hS.cell 0 rfl 9]; exact hashC_nine hl8
  have c8 : w.cell? ⟨g, 8, none⟩ = some (.slice A r c) := by rw [hS.cell 0 rfl 8]; exact hashC_eight hl8
  have f9 := hS.free 0 rfl 9
  have f8 := hS.free 0 rfl 8
  have hwm : IntKind.u64.wrap (m : Int) = (m : Int) := by rw [IntKind.wrap_u64]; omega
  have hwn : IntKind.u64.wrap ((n : Int) + (m : Int)) = ((n + m : Nat) : Int) := by rw [IntKind.wrap_u64]; omega
  have hS1 := hS.setCell 0 rfl 9 (.int .u64 ((n + m : Nat) : Int))
  rw [hashC_set9 hl8] at hS1
  have HS1 := hide hS1
  have HR1 := hide (rd_setCell (o := 9) (v := .int .u64 ((n + m : Nat) : Int)) hr hne)
  have hal : all.length = r + m := by rw [← hall, List.length_append, hrl, hl]
  have hq : wrap64 (((r : Int) + (m : Int)).tdiv 128) = (k : Int) := by
    rw [Int.tdiv_eq_ediv_of_nonneg (by omega)]
    exact IntWalk.wrap64_in _ ⟨by omega, by omega⟩ |>.trans (by omega)
  have HL8 := hide hl8
  have HW8 := hide hw8
  have HAL := hide hal
  have HALL := hide hall
  have HK := hide hk
  have HT := hide ht
  have HN := hide hn
  have hm64 : m ≤ 9223372036854775807 := by omega
  clear hS hr hne hl8 hw8 hrl hl hn hal hall hk ht hS1
  go_enter Tryz.func96, Tryz.ntmps96
  go_upto_region 4 with (at_builtin; refine wl_append rfl rfl tyB HS1.out 1 rfl rfl rfl HR1.out (one_bvs _) (by have := HN.out; omega) (by decide) ?_; intro A1 c1 w1 hS1; have z8 : w1.cell? ⟨g, 8, none⟩ = some (.slice A r c) := (hS1.cell 0 rfl 8).trans (hashC_eight HL8.out); have q8 := hS1.free 0 rfl 8; have HS2 := hide (hS1.setCell 0 rfl 8 (.slice A1 (r + m) c1)))
  clear c9 c8 f9 f8 hwm hwn z8 q8 hS1
  rw [← bvs_append, HALL.out, hashC_set8 HL8.out] at HS2
  have hN : r + m ≤ 1000127 := by have := HN.out; omega
  generalize w1.setCell ⟨g, 8, none⟩ (.slice A1 (r + m) c1) = w2 at HS2 ⊢
  rw [hq]
  obtain ⟨N, hNN⟩ : ∃ N, N = r + m := ⟨_, rfl⟩
  rw [← hNN] at HS2 hN HAL ⊢
  obtain ⟨n', hn'⟩ : ∃ n', n' = n + m := ⟨_, rfl⟩
  rw [← hn'] at HS2
  have HN' := hide hn'
  have hkN : 128 * k ≤ N := by have := HK.out; have := HAL.out; omega
  have hkt : N = 128 * k + t := by have := HK.out; have := HT.out; have := HAL.out; omega
  have HKT := hide hkt
  clear hNN hq hn' hkt
  go_wp2_with fail
  go_loopw [34] (fun i wr => WrRel w0 M H g hs A1 c1 N n' k all i wr) (fun i _ => k - (intOf i).toNat)
  case atStart => exact ⟨0, by omega, rfl, HS2.out⟩
  case round =>
    clear HS2
    obtain ⟨i, hi, rfl, hS⟩ := hrel
    have ⟨g1, g2⟩ := runN_ok i hs all HL8.out HW8.out
    have c8 : wr.cell? ⟨g, 8, none⟩ = some (.slice A1 N c1) := (hS.cell 0 rfl 8).trans (hashC_eight g1)
    have hrd := hS.rd 1 rfl
    have hcap := rd_cap hrd
    by_cases hlt : i < k
    · obtain ⟨b, o, rfl⟩ : ∃ b o, A1 = some ⟨b, o, none⟩ := by
        rcases hrd.cases with ⟨_, h0, _⟩ | ⟨b, o, sp, c', hv, _, _, _, _, h4, _⟩
        · omega
        · injection hv with hv1 _ _
          have := h4 (by omega)
          subst this hv1
          exact ⟨b, o, rfl⟩
      have hmid := rd_mid0 hrd (i * 128) ((i + 1) * 128) (by omega) (by omega)
      rw [show (i + 1) * 128 - i * 128 = 128 from by omega, show all.drop (i * 128) = all.drop (128 * i) from by rw [Nat.mul_comm]] at hmid
      have HT2 := hide (takes_any (H := .row (.slice (some ⟨b, o, none⟩) N c1) 5 1 N (bvs all) :: H) g (runN hs i all) (.slice (some ⟨b, o, none⟩) N c1) n' (some ⟨b, o + i * 128, none⟩) (c1 - i * 128) ((all.drop (128 * i)).take 128) wr g1 g2 (by rw [List.length_take, List.length_drop, HAL.out]; omega) hS hmid)
      rw [← runN_snoc] at HT2
      have h128 : (i + 1) * 128 - i * 128 = 128 := by omega
      have d1 : decide ((i : Int) < (k : Int)) = true := by simp; omega
      have i1 : (i : Int) < (k : Int) := by omega
      clear hrd hmid hS g1 g2
      go_wp2_with (go_at_call 131; refine HT2.out.mono ?_; rintro e w3 ⟨rfl, hS3⟩; have HS3 := hide hS3; clear hS3)
      go_roundw
      case rel => exact ⟨i + 1, by omega, by go_num, HS3.out⟩
      case measure => (simp [intOf]) <;> omega
    · obtain rfl : i = k := by omega
      have HS := hide hS
      have hcpos : c1 ≤ 9223372036854775807 := by
        obtain ⟨_, _, e, _, _, h3, _⟩ := hrd
        injection e with _ _ e3
        subst e3
        unfold maxLen at h3
        omega
      have ht2 : t ≤ 127 := by have := HT.out; omega
      have hkt := HKT.out
      by_cases hN0 : N = 0
      · have hi0 : i = 0 := by omega
        have ht0 : t = 0 := by omega
        have hnil : all = [] := List.eq_nil_of_length_eq_zero (by rw [HAL.out]; exact hN0)
        subst hN0 hi0 ht0 hnil
        cases A1 with
        | none =>
          have hc0 : c1 = 0 := by
            obtain ⟨A', c', e, _, _, _, h4, _⟩ := hrd
            injection e with e1 _ e3
            rw [e3]
            exact h4 e1.symm
          subst hc0
          have HRV := hide (show Rd wr (.slice none 0 0) 1 0 (bvs []) from rd_nil wr 1)
          clear hS hrd hkt
          go_wp2_with (at_builtin; refine wl_append0 rfl rfl tyB HS.out rfl rfl HRV.out (one_bvs _) (by omega) (by decide) ?_; intro A3 c3 w3 hS3; have q8 := hS3.free 1 rfl 8; have z8 : w3.cell? ⟨g, 8, none⟩ = some (.slice none 0 0) := (hS3.cell 1 rfl 8).trans (hashC_eight g1); have HS3 := hide (hS3.setCell 1 rfl 8 (.slice A3 0 c3)))
          go_end0
          have h4 := HS3.out
          rw [hashC_set8 g1] at h4
          have h5 := St.mid2 (St.swap h4)
          rw [HN'.out] at h5
          exact ⟨rfl, A3, c3, h5⟩
        | some ad =>
          have HRV := hide (show Rd wr (.slice (some ad) 0 c1) 1 0 (bvs []) from hrd)
          obtain ⟨b, o, sp⟩ := ad
          by_cases hcc : c1 = 0
          · subst hcc
            clear hS hrd hkt
            go_wp2_with (at_builtin; refine wl_append0 rfl rfl tyB HS.out rfl rfl HRV.out (one_bvs _) (by omega) (by decide) ?_; intro A3 c3 w3 hS3; have q8 := hS3.free 1 rfl 8; have z8 : w3.cell? ⟨g, 8, none⟩ = some (.slice (some ⟨b, o, sp⟩) 0 _) := (hS3.cell 1 rfl 8).trans (hashC_eight g1); have HS3 := hide (hS3.setCell 1 rfl 8 (.slice A3 0 c3)))
            go_end0
            have h4 := HS3.out
            rw [hashC_set8 g1] at h4
            have h5 := St.mid2 (St.swap h4)
            rw [HN'.out] at h5
            exact ⟨rfl, A3, c3, h5⟩
          · have hcl : 0 < c1 := by omega
            clear hS hrd hkt
            go_wp2_with (at_builtin; refine wl_append0 rfl rfl tyB HS.out rfl rfl HRV.out (one_bvs _) (by omega) (by decide) ?_; intro A3 c3 w3 hS3; have q8 := hS3.free 1 rfl 8; have z8 : w3.cell? ⟨g, 8, none⟩ = some (.slice (some ⟨b, o, sp⟩) 0 _) := (hS3.cell 1 rfl 8).trans (hashC_eight g1); have HS3 := hide (hS3.setCell 1 rfl 8 (.slice A3 0 c3)))
            go_end0
            have h4 := HS3.out
            rw [hashC_set8 g1] at h4
            have h5 := St.mid2 (St.swap h4)
            rw [HN'.out] at h5
            exact ⟨rfl, A3, c3, h5⟩
      · obtain ⟨b, o, rfl⟩ : ∃ b o, A1 = some ⟨b, o, none⟩ := by
          rcases hrd.cases with ⟨_, h0, _⟩ | ⟨b, o, sp, c', hv, _, _, _, _, h4, _⟩
          · omega
          · injection hv with hv1 _ _
            have := h4 (by omega)
            subst this hv1
            exact ⟨b, o, rfl⟩
        by_cases hcc : c1 = i * 128
        · have hNi : N = i * 128 := by omega
          have ht0 : t = 0 := by omega
          have hdr : all.drop (128 * i) = [] := List.drop_eq_nil_of_le (by rw [HAL.out]; omega)
          subst hcc hNi ht0
          have HDR := hide hdr
          have hmx : i * 128 ≤ maxLen := by unfold maxLen; omega
          clear hS hrd hkt hdr
          go_wp2_with (at_builtin; refine wl_append0z rfl rfl tyB HS.out rfl rfl (by omega) (by omega) (by omega) (by decide) ?_; intro A3 c3 w3 hS3; have q8 := hS3.free 1 rfl 8; have z8 : w3.cell? ⟨g, 8, none⟩ = some (.slice (some ⟨b, o, none⟩) (i * 128) (i * 128)) := (hS3.cell 1 rfl 8).trans (hashC_eight g1); have HS3 := hide (hS3.setCell 1 rfl 8 (.slice A3 0 c3)))
          go_end0
          have h4 := HS3.out
          rw [hashC_set8 g1] at h4
          have h5 := St.mid2 (St.swap h4)
          rw [HN'.out] at h5
          refine ⟨rfl, A3, c3, ?_⟩
          rw [HDR.out]
          exact h5
        · have hcl : i * 128 < c1 := by omega
          have hmid := rd_mid0 hrd (i * 128) N (by omega) (Nat.le_refl _)
          rw [List.take_of_length_le (by rw [List.length_drop, HAL.out]; exact Nat.le_refl _), show i * 128 = 128 * i from by omega] at hmid
          have hti2 : N - i * 128 = t := by omega
          rw [show N - 128 * i = N - i * 128 from by omega, show o + 128 * i = o + i * 128 from by omega, show c1 - 128 * i = c1 - i * 128 from by omega] at hmid
          have HRV := hide hmid
          have HTI := hide hti2
          clear hS hrd hkt hmid hti2
          go_wp2_with (at_builtin; refine wl_append0 rfl rfl tyB HS.out rfl rfl HRV.out (one_bvs _) (by omega) (by decide) ?_; intro A3 c3 w3 hS3; have q8 := hS3.free 1 rfl 8; have z8 : w3.cell? ⟨g, 8, none⟩ = some (.slice (some ⟨b, o, none⟩) N c1) := (hS3.cell 1 rfl 8).trans (hashC_eight g1); have HS3 := hide (hS3.setCell 1 rfl 8 (.slice A3 (N - i * 128) c3)))
          go_end0
          have h4 := HS3.out
          rw [hashC_set8 g1] at h4
          have h5 := St.mid2 (St.swap h4)
          rw [HN'.out] at h5
          refine ⟨rfl, A3, c3, ?_⟩
          rw [← HTI.out]
          exact h5
end Go.Proofs.YtnohmgpmmhlloaaGreatDoor.S1

namespace Go.Proofs.YtnohmgpmmhlloaaGreatDoor.S1
open Go.RowKit
set_option linter.unusedSimpArgs false

def HCk (g : Nat) (A : Option Addr) (c : Nat) (l : List UInt8) : Chunk := .cells g (hashC (stO l) (.slice A (l.length % 128) c) l.length) 173
def HRk (A : Option Addr) (c : Nat) (l : List UInt8) : Chunk := .row (.slice A (l.length % 128) c) 5 1 (l.length % 128) (bvs (rsO l))
theorem write_msg {w0 : World} {M : Nat → Prop} {H : List Chunk} (g : Nat) (A : Option Addr) (c : Nat) (l : List UInt8) (B : Option Addr) (cb m : Nat) (x : List UInt8) (w : World) (hx : x.length = m) (hn : l.length + m ≤ 1000000)
    (hS : St w0 M w (HCk g A c l :: HRk A c l :: H)) (hr : Rd w (.slice B m cb) 1 m (bvs x)) (hne : 0 < m → (Value.slice B m cb).ownBlock ≠ some g) :
    Calls Tryz.prog 96 #[.pointer (some ⟨g, 0, none⟩), .slice B m cb] w fun e w' => e = .returned (.tuple #[]) ∧ ∃ A' c', St w0 M w' (HCk g A' c' (l ++ x) :: HRk A' c' (l ++ x) :: H) := by
  have h := write_any (H := H) g (stO l) A c (l.length % 128) l.length (rsO l) B cb m x w (rsO l ++ x) _ _ (stO_ok l).1 (stO_ok l).2 (rsO_len l) hx hn (by omega) rfl rfl rfl hS hr hne
  rw [stO_append, rsO_append] at h
  have e1 : (rsO l ++ x).length % 128 = (l ++ x).length % 128 := by rw [List.length_append, List.length_append, rsO_len]; omega
  have e2 : l.length + m = (l ++ x).length := by rw [List.length_append, hx]
  rw [e1, e2] at h
  exact h
set_option maxRecDepth 100000 in
set_option maxHeartbeats 800000 in
theorem new_any {w0 : World} {M : Nat → Prop} {H : List Chunk} (w : World) (hS : St w0 M w H) :
    Calls Tryz.prog 95 #[] w fun e w' => ∃ g, e = .returned (.pointer (some ⟨g, 0, none⟩)) ∧ St w0 M w' (HCk g none 0 [] :: HRk none 0 [] :: H) ∧ Below w.heap.size w w' := by
  have HS := hide hS
  have HB := hide (begin_any w)
  unfold h0L at HB
  clear hS
  go_enter Tryz.func95, Tryz.ntmps95
  go_wp2_with (go_at_call 130; refine HB.out.mono ?_; rintro e w1 ⟨rfl, hb1⟩)
  have h1 := (HS.out.call hb1).row (Below.refl _ _) (World.ownsRow_nil _ _ 5 1)
  have h2 := hide (h1.alloc (hashC (stO []) (.slice none 0 0) 0) 173)
  have hb2 := hide (hb1)
  clear h1
  go_ret
  exact ⟨w1.heap.size, rfl, h2.out, bnx hb2.out ((Below.refl _ _).alloc (Nat.le_refl _) _)⟩
theorem rd_far {w : World} {y : Value} {m g : Nat} {xs : List Value} (h : Rd w y 1 m xs) (hg : w.heap.size ≤ g) : 0 < m → y.ownBlock ≠ some g := fun hm e => by
  rcases h.cases with ⟨_, h0, _⟩ | ⟨b, o, sp, c, rfl, hb, _⟩
  · omega
  · have h2 : b = g := Option.some.inj e
    have := hb (by omega)
    omega
def Sum64 (w : World) (l : List UInt8) (e : Ending) (w' : World) : Prop := ∃ B d, e = .returned (.slice B 64 d) ∧ Below w.heap.size w w' ∧ w'.ownsRow w.heap.size 5 1 (.slice B 64 d) 64 (bvs l)
end Go.Proofs.YtnohmgpmmhlloaaGreatDoor.S1

namespace Go.Proofs.YtnohmgpmmhlloaaGreatDoor.S1
open Go.RowKit
set_option linter.unusedSimpArgs false

theorem ixh0 (x0 x1 x2 x3 x4 x5 x6 x7 : Nat) (W : World) : (Instr.index 170 (.agg #[.int .u64 (x0 : Int), .int .u64 (x1 : Int), .int .u64 (x2 : Int), .int .u64 (x3 : Int), .int .u64 (x4 : Int), .int .u64 (x5 : Int), .int .u64 (x6 : Int), .int .u64 (x7 : Int)]) (.int .i64 ((0 : Nat) : Int))).run Tryz.prog W = .ok (.int .u64 (x0 : Int)) W := by kernel_rfl
theorem ixh1 (x0 x1 x2 x3 x4 x5 x6 x7 : Nat) (W : World) : (Instr.index 170 (.agg #[.int .u64 (x0 : Int), .int .u64 (x1 : Int), .int .u64 (x2 : Int), .int .u64 (x3 : Int), .int .u64 (x4 : Int), .int .u64 (x5 : Int), .int .u64 (x6 : Int), .int .u64 (x7 : Int)]) (.int .i64 ((1 : Nat) : Int))).run Tryz.prog W = .ok (.int .u64 (x1 : Int)) W := by kernel_rfl
theorem ixh2 (x0 x1 x2 x3 x4 x5 x6 x7 : Nat) (W : World) : (Instr.index 170 (.agg #[.int .u64 (x0 : Int), .int .u64 (x1 : Int), .int .u64 (x2 : Int), .int .u64 (x3 : Int), .int .u64 (x4 : Int), .int .u64 (x5 : Int), .int .u64 (x6 : Int), .int .u64 (x7 : Int)]) (.int .i64 ((2 : Nat) : Int))).run Tryz.prog W = .ok (.int .u64 (x2 : Int)) W := by kernel_rfl
theorem ixh3 (x0 x1 x2 x3 x4 x5 x6 x7 : Nat) (W : World) : (Instr.index 170 (.agg #[.int .u64 (x0 : Int), .int .u64 (x1 : Int), .int .u64 (x2 : Int), .int .u64 (x3 : Int), .int .u64 (x4 : Int), .int .u64 (x5 : Int), .int .u64 (x6 : Int), .int .u64 (x7 : Int)]) (.int .i64 ((3 : Nat) : Int))).run Tryz.prog W = .ok (.int .u64 (x3 : Int)) W := by kernel_rfl
theorem ixh4 (x0 x1 x2 x3 x4 x5 x6 x7 : Nat) (W : World) : (Instr.index 170 (.agg #[.int .u64 (x0 : Int), .int .u64 (x1 : Int), .int .u64 (x2 : Int), .int .u64 (x3 : Int), .int .u64 (x4 : Int), .int .u64 (x5 : Int), .int .u64 (x6 : Int), .int .u64 (x7 : Int)]) (.int .i64 ((4 : Nat) : Int))).run Tryz.prog W = .ok (.int .u64 (x4 : Int)) W := by kernel_rfl
theorem ixh5 (x0 x1 x2 x3 x4 x5 x6 x7 : Nat) (W : World) : (Instr.index 170 (.agg #[.int .u64 (x0 : Int), .int .u64 (x1 : Int), .int .u64 (x2 : Int), .int .u64 (x3 : Int), .int .u64 (x4 : Int), .int .u64 (x5 : Int), .int .u64 (x6 : Int), .int .u64 (x7 : Int)]) (.int .i64 ((5 : Nat) : Int))).run Tryz.prog W = .ok (.int .u64 (x5 : Int)) W := by kernel_rfl
theorem ixh6 (x0 x1 x2 x3 x4 x5 x6 x7 : Nat) (W : World) : (Instr.index 170 (.agg #[.int .u64 (x0 : Int), .int .u64 (x1 : Int), .int .u64 (x2 : Int), .int .u64 (x3 : Int), .int .u64 (x4 : Int), .int .u64 (x5 : Int), .int .u64 (x6 : Int), .int .u64 (x7 : Int)]) (.int .i64 ((6 : Nat) : Int))).run Tryz.prog W = .ok (.int .u64 (x6 : Int)) W := by kernel_rfl
theorem ixh7 (x0 x1 x2 x3 x4 x5 x6 x7 : Nat) (W : World) : (Instr.index 170 (.agg #[.int .u64 (x0 : Int), .int .u64 (x1 : Int), .int .u64 (x2 : Int), .int .u64 (x3 : Int), .int .u64 (x4 : Int), .int .u64 (x5 : Int), .int .u64 (x6 : Int), .int .u64 (x7 : Int)]) (.int .i64 ((7 : Nat) : Int))).run Tryz.prog W = .ok (.int .u64 (x7 : Int)) W := by kernel_rfl
theorem ixh (x0 x1 x2 x3 x4 x5 x6 x7 k v : Nat) (h : [x0, x1, x2, x3, x4, x5, x6, x7][k]? = some v) (W : World) : (Instr.index 170 (.agg #[.int .u64 (x0 : Int), .int .u64 (x1 : Int), .int .u64 (x2 : Int), .int .u64 (x3 : Int), .int .u64 (x4 : Int), .int .u64 (x5 : Int), .int .u64 (x6 : Int), .int .u64 (x7 : Int)]) (.int .i64 (k : Int))).run Tryz.prog W = .ok (.int .u64 (v : Int)) W := by
  match k, h with
  | 0, h => have h9 : x0 = v := Option.some.inj h; rw [← h9]; exact ixh0 x0 x1 x2 x3 x4 x5 x6 x7 W
  | 1, h => have h9 : x1 = v := Option.some.inj h; rw [← h9]; exact ixh1 x0 x1 x2 x3 x4 x5 x6 x7 W
  | 2, h => have h9 : x2 = v := Option.some.inj h; rw [← h9]; exact ixh2 x0 x1 x2 x3 x4 x5 x6 x7 W
  | 3, h => have h9 : x3 = v := Option.some.inj h; rw [← h9]; exact ixh3 x0 x1 x2 x3 x4 x5 x6 x7 W
  | 4, h => have h9 : x4 = v := Option.some.inj h; rw [← h9]; exact ixh4 x0 x1 x2 x3 x4 x5 x6 x7 W
  | 5, h => have h9 : x5 = v := Option.some.inj h; rw [← h9]; exact ixh5 x0 x1 x2 x3 x4 x5 x6 x7 W
  | 6, h => have h9 : x6 = v := Option.some.inj h; rw [← h9]; exact ixh6 x0 x1 x2 x3 x4 x5 x6 x7 W
  | 7, h => have h9 : x7 = v := Option.some.inj h; rw [← h9]; exact ixh7 x0 x1 x2 x3 x4 x5 x6 x7 W
theorem infoB : (Tryz.prog.info? 5).map (fun i => (i.zero, i.size, i.bytes)) = some (some (.int .u8 0), 1, 1) := by kernel_rfl
def zsL (n : Nat) : Nat := (240 - (n + 1) % 128) % 128
def padL (n : Nat) : List UInt8 := [128] ++ List.replicate (zsL n) 0 ++ (beL 8 0 ++ beL 8 (8 * n))
def outL (s : List Nat) : List UInt8 := s.flatMap (beL 8)
def shaL (l : List UInt8) : List UInt8 := outL (stO (l ++ padL l.length))
theorem outL_len (s : List Nat) : (outL s).length = 8 * s.length := by
  induction s with
  | nil => rfl
  | cons x s ih => show (beL 8 x ++ outL s).length = _; rw [List.length_append, beL_len, ih, List.length_cons]; omega
theorem outL_take (s : List Nat) (k x : Nat) (h : s[k]? = some x) : outL (s.take (k + 1)) = outL (s.take k) ++ beL 8 x := by
  obtain ⟨hk, hx⟩ := List.getElem?_eq_some_iff.1 h
  unfold outL
  rw [List.take_succ_eq_append_getElem hk, List.flatMap_append, hx]
  simp
theorem shaL_len (l : List UInt8) : (shaL l).length = 64 := by unfold shaL; rw [outL_len, (stO_ok _).1]
theorem enBehind (args : Array Value) (w : World) : (callFunc 134 args).run Tryz.prog w = .ok (.enter 134 args) w := by kernel_rfl
theorem enWrite (args : Array Value) (w : World) : (callFunc 96 args).run Tryz.prog w = .ok (.enter 96 args) w := by kernel_rfl
theorem step_callv {P : Program} {w : World} {yl : Nat → Option Bool} {o : Oper} {a : Act} {K : Act → World → Prop} {Q : Exit → Act → World → Prop} {E : Prop} (hw : Region.wanted o yl = true) {c : Operand} {f : FuncId} {first cap : Array Value} {xs : List Operand} {ts : Array TypeId} {vs : Array Value} {R : Ending → World → Prop}
    (ho : o.op = .call { callee := .value c, args := xs.toArray, argTypes := ts }) (hcv : a.eval c = .func (.func f) first cap) (hf : ∀ (args : Array Value) (w : World), (callFunc f args).run P w = .ok (.enter f args) w)
    (hx : first ++ (xs.map a.eval).toArray ++ cap = vs) (hc : Calls P f vs w R) (h : ∀ e w', R e w' → ∃ v, e = .returned v ∧ K (a.put o.dst v) w') : if Region.wanted o yl = true then Oper.wp P o a w K Q else E := by
  rw [if_pos hw]
  exact wp_callv ho hcv hf hx hc h
theorem _root_.Go.Proofs.YtnohmgpmmhlloaaGreatDoor.St.cut3 {w0 w : World} {M : Nat → Prop} {H : List Chunk} {a b x : Chunk} (h : St w0 M w (a :: b :: x :: H)) : St w0 M w (a :: b :: H) := h.mid2
def Sn (g n : Nat) (x : World) : Prop := x.cell? ⟨g, 9, none⟩ = some (.int .u64 (n : Int))
def SumRel (w0 : World) (M : Nat → Prop) (H : List Chunk) (s : List Nat) (v iv : Value) (wr : World) : Prop :=
  ∃ (j : Nat) (B : Option Addr) (d : Nat), j ≤ 8 ∧ iv = .int .i64 (j : Int) ∧ v = .slice B (8 * j) d ∧ St w0 M wr (.row (.slice B (8 * j) d) 5 1 (8 * j) (bvs (outL (s.take j))) :: H)
set_option maxRecDepth 100000 in
set_option maxHeartbeats 1600000 in
theorem sum_ro (g : Nat) (A : Option Addr) (c : Nat) (l : List UInt8) (w : World) (hn : l.length ≤ 900000) (hC0 : w.heap[g]? = some (.cells (hashC (stO l) (.slice A (l.length % 128) c) l.length) 173 (0, 0)))
    (hR0 : Rd w (.slice A (l.length % 128) c) 1 (l.length % 128) (bvs (rsO l))) :
    Calls Tryz.prog 98 #[.pointer (some ⟨g, 0, none⟩)] w (Sum64 w (shaL l)) := by
  obtain ⟨n, hnn⟩ : ∃ n, n = l.length := ⟨_, rfl⟩
  obtain ⟨a0, a1, a2, a3, a4, a5, a6, a7, hs8⟩ := list8 (stO_ok l).1
  have hC : w.heap[g]? = some (.cells (hashC [a0, a1, a2, a3, a4, a5, a6, a7] (.slice A (n % 128) c) n) 173 (0, 0)) := by
    have := hC0
    rw [hs8, ← hnn] at this
    exact this
  have m0 : w.cell? ⟨g, 0, none⟩ = some (.int .u64 (a0 : Int)) := cell_of_row w g 0 _ _ (0, 0) hC
  have m1 : w.cell? ⟨g, 1, none⟩ = some (.int .u64 (a1 : Int)) := cell_of_row w g 1 _ _ (0, 0) hC
  have m2 : w.cell? ⟨g, 2, none⟩ = some (.int .u64 (a2 : Int)) := cell_of_row w g 2 _ _ (0, 0) hC
  have m3 : w.cell? ⟨g, 3, none⟩ = some (.int .u64 (a3 : Int)) := cell_of_row w g 3 _ _ (0, 0) hC
  have m4 : w.cell? ⟨g, 4, none⟩ = some (.int .u64 (a4 : Int)) := cell_of_row w g 4 _ _ (0, 0) hC
  have m5 : w.cell? ⟨g, 5, none⟩ = some (.int .u64 (a5 : Int)) := cell_of_row w g 5 _ _ (0, 0) hC
  have m6 : w.cell? ⟨g, 6, none⟩ = some (.int .u64 (a6 : Int)) := cell_of_row w g 6 _ _ (0, 0) hC
  have m7 : w.cell? ⟨g, 7, none⟩ = some (.int .u64 (a7 : Int)) := cell_of_row w g 7 _ _ (0, 0) hC
  have m8 : w.cell? ⟨g, 8, none⟩ = some (.slice A (n % 128) c) := cell_of_row w g 8 _ _ (0, 0) hC
  have m9 : w.cell? ⟨g, 9, none⟩ = some (.int .u64 (n : Int)) := cell_of_row w g 9 _ _ (0, 0) hC
  have HSA := hide ((St.init w NoB).alloc #[.int .u64 (a0 : Int), .int .u64 (a1 : Int), .int .u64 (a2 : Int), .int .u64 (a3 : Int), .int .u64 (a4 : Int), .int .u64 (a5 : Int), .int .u64 (a6 : Int), .int .u64 (a7 : Int), .slice A (n % 128) c, .int .u64 (n : Int)] 173)
  have HN : Hid (l.length = n) := hide hnn.symm
  have hn9 : n ≤ 900000 := by omega
  have HS8 := hide hs8
  have hgl : g < w.heap.size := (Array.getElem?_eq_some_iff.1 hC0).1
  have HGL := hide hgl
  have HR0 := hide hR0
  have HM9 := hide m9
  clear hC hnn hs8 hn hC0 hR0
  go_enter Tryz.func98, Tryz.ntmps98
  go_upto_region 6 with (at_builtin; refine wl_append0 rfl rfl tyB HSA.out rfl rfl (by have h := HR0.out.below (HSA.out.below); rw [HN.out] at h; exact h) (one_bvs _) (by omega) (by decide) ?_; intro A2 c2 w2 hS2; have q8 := hS2.free 1 rfl 8; have z8 : w2.cell? ⟨w.heap.size, 8, none⟩ = some (.slice A (n % 128) c) := hS2.cell 1 rfl 8; have HS3 := hide (hS2.setCell 1 rfl 8 (.slice A2 (n % 128) c2)); clear hS2)
  generalize w.heap.size = g2 at HS3 ⊢
  generalize w2.setCell ⟨g2, 8, none⟩ (.slice A2 (n % 128) c2) = w3 at HS3 ⊢
  have hS3 : St w NoB w3 (.row (.slice A2 (n % 128) c2) 5 1 (n % 128) (bvs (rsO l)) :: .cells g2 (hashC [a0, a1, a2, a3, a4, a5, a6, a7] (.slice A2 (n % 128) c2) n) 173 :: ([] : List Chunk)) := HS3.out
  rw [← HS8.out, ← HN.out] at hS3
  have HS4 : Hid (St w NoB w3 (HCk g2 A2 c2 l :: HRk A2 c2 l :: ([] : List Chunk))) := hide hS3.swap
  clear m0 m1 m2 m3 m4 m5 m6 m7 m8 m9 hgl q8 z8 hS3 HS3 HSA
  have hg2 : g2 < w3.heap.size := Chunk.lt (HS4.out.sat 0 _ rfl) rfl
  have HS5 := hide (HS4.out.skip (.cells #[.int .u8 128] 5))
  have HR5 := hide (show Rd (w3.alloc (.cells #[.int .u8 128] 5)) (.slice (some ⟨w3.heap.size, 0, none⟩) 1 1) 1 1 (bvs [128]) from rd_new w3 [.int .u8 128] 5 1 1 rfl (by decide))
  have HNE : Hid ((Value.slice (some ⟨w3.heap.size, 0, none⟩) 1 1).ownBlock ≠ some g2) := hide (fun h => by have h2 : w3.heap.size = g2 := Option.some.inj h; omega)
  have HWR := hide (write_msg g2 A2 c2 l (some ⟨w3.heap.size, 0, none⟩) 1 1 [128] _ rfl (by rw [HN.out]; omega) HS5.out HR5.out (fun _ => HNE.out))
  go_upto_region 7 with (go_at_call 96; refine HWR.out.mono ?_; rintro e w4 ⟨rfl, A4, c4, hS4⟩)
  obtain ⟨l1, hl1⟩ : ∃ l1, l1 = l ++ [128] := ⟨_, rfl⟩
  rw [← hl1] at hS4
  have hl1n : l1.length = n + 1 := by rw [hl1, List.length_append, HN.out]; rfl
  have z8 : w4.cell? ⟨g2, 8, none⟩ = some (.slice A4 ((n + 1) % 128) c4) := by
    have := (hS4.cell 0 rfl 8).trans (hashC_eight (stO_ok l1).1)
    rwa [hl1n] at this
  have HS6 := hide hS4
  have HL1 := hide hl1
  have HL1N := hide hl1n
  obtain ⟨z, hz⟩ : ∃ z, z = zsL n := ⟨_, rfl⟩
  have hzm1 : ((240 : Int) - (((n + 1) % 128 : Nat) : Int)) % 128 = (z : Int) := by rw [hz]; unfold zsL; omega
  have hzm2 : ((240 : Int) - (((n + 1) % 128 : Nat) : Int)).tmod 128 = (z : Int) := by rw [Int.tmod_eq_emod_of_nonneg (by omega)]; exact hzm1
  have hz127 : z ≤ 127 := by rw [hz]; unfold zsL; omega
  have hr127 : (n + 1) % 128 ≤ 127 := by omega
  generalize (n + 1) % 128 = r4 at z8 hzm1 hzm2 hr127
  have HZ := hide hz
  clear hS4 hl1 hl1n hz hg2 HS5 HR5 HNE HWR HS4
  go_upto_region 8 with (first
    | (have _q := hb5; go_at_call 96; refine (write_msg (H := .row (.slice (some ⟨gz, 0, none⟩) z z) 5 1 z (bvs (List.replicate z 0)) :: ([] : List Chunk)) g2 A4 c4 l1 (some ⟨gz, 0, none⟩) z z (List.replicate z 0) _ List.length_replicate (by rw [HL1N.out]; omega) (St.swap12 (St.swap HS7.out)) (HS7.out.rd 0 rfl) (fun _ h => by have h2 : gz = g2 := Option.some.inj h; exact HS7.out.apart 0 1 _ _ gz (by decide) rfl rfl rfl (by rw [h2]; rfl))).mono ?_; rintro e w6 ⟨rfl, A6, c6, hS8⟩)
    | (refine wl_makeB (n := z) rfl rfl Tryz.underlying22 infoB HS6.out rfl rfl (by omega) ?_; intro gz w5 hS7 hb5; have HS7 := hide hS7; clear hS7))
  obtain ⟨l2, hl2⟩ : ∃ l2, l2 = l1 ++ List.replicate z 0 := ⟨_, rfl⟩
  rw [← hl2] at hS8
  have HL2 := hide hl2
  have hl2n : l2.length ≤ 900200 := by rw [hl2, List.length_append, HL1N.out, List.length_replicate]; omega
  replace hS8 : St w NoB w6 (HCk g2 A6 c6 l2 :: HRk A6 c6 l2 :: ([] : List Chunk)) := St.cut3 hS8
  have HS8 := hide hS8
  have HD := hide hS8.drew
  have hg26 : g2 < w6.heap.size := Chunk.lt (hS8.sat 0 _ rfl) rfl
  have HG26 := hide hg26
  have HC9 : Hid (Sn g n w6.drew) := hide ((HD.out.below.cell (p := ⟨g, 9, none⟩) HGL.out).trans HM9.out)
  have c9 : ∀ z, Sn g n z → z.cell? ⟨g, 9, none⟩ = some (.int .u64 (n : Int)) := fun z hz => hz
  have hx1 : (n : Int) / 2305843009213693952 = 0 := by omega
  have hx2 : IntKind.u64.wrap ((n : Int) * 8) = ((8 * n : Nat) : Int) := by rw [IntKind.wrap_u64]; omega
  have h8n : 8 * n < W1 := by unfold W1; omega
  obtain ⟨n8, hn8⟩ : ∃ n8, n8 = 8 * n := ⟨_, rfl⟩
  rw [← hn8] at hx2 h8n
  have HN8 := hide hn8
  have HL2N := hide hl2n
  clear z8 hzm1 hzm2 hr127 hb5 _q hl2 hl2n hS8 hg26 hn8
  refine wp_region_G (Sn g n) (by kernel_rfl) ?_
  (refine wpG_take (i := 0) (v := ?_) rfl (by kernel_rfl) (by kernel_rfl) (by kernel_rfl) (fun _ _ _ h => h) (HC9.out) (Or.inl ⟨by first | kernel_rfl | rfl, ?_⟩) ?_; rotate_left; (intro wx hx; go_simp) <;> (with_reducible rfl); (try simp only [Act.put, nq1, nq2, nq3, nq4, nq5, nq6])); (refine wpG_take (i := 1) (v := ?_) rfl (by kernel_rfl) (by kernel_rfl) (by kernel_rfl) (fun _ _ _ h => h) (HC9.out) (Or.inl ⟨by first | kernel_rfl | rfl, ?_⟩) ?_; rotate_left; (intro wx hx; go_simp) <;> (with_reducible rfl); (try simp only [Act.put, nq1, nq2, nq3, nq4, nq5, nq6])); (refine wpG_take (i := 2) (v := ?_) rfl (by kernel_rfl) (by kernel_rfl) (by kernel_rfl) (fun _ _ _ h => h) (HC9.out) (Or.inl ⟨by first | kernel_rfl | rfl, ?_⟩) ?_; rotate_left; (intro wx hx; go_simp) <;> (with_reducible rfl); (try simp only [Act.put, nq1, nq2, nq3, nq4, nq5, nq6])); (refine wpG_take (i := 3) (v := ?_) rfl (by kernel_rfl) (by kernel_rfl) (by kernel_rfl) (fun _ _ _ h => h) (HC9.out) (Or.inl ⟨by first | kernel_rfl | rfl, ?_⟩) ?_; rotate_left; (intro wx hx; go_simp) <;> (with_reducible rfl); (try simp only [Act.put, nq1, nq2, nq3, nq4, nq5, nq6])); (refine wpG_take (i := 4) (v := ?_) rfl (by kernel_rfl) (by kernel_rfl) (by kernel_rfl) (fun _ _ _ h => h) (HC9.out) (Or.inl ⟨by first | kernel_rfl | rfl, ?_⟩) ?_; rotate_left; (intro wx hx; go_simp) <;> (with_reducible rfl); (try simp only [Act.put, nq1, nq2, nq3, nq4, nq5, nq6])); (refine wpG_take (i := 5) (v := ?_) rfl (by kernel_rfl) (by kernel_rfl) (by kernel_rfl) (fun _ _ _ h => h) (HC9.out) (Or.inl ⟨by first | kernel_rfl | rfl, ?_⟩) ?_; rotate_left; (intro wx hx; go_simp) <;> (with_reducible rfl); (try simp only [Act.put, nq1, nq2, nq3, nq4, nq5, nq6])); (refine wpG_take (i := 7) (v := ?_) rfl (by kernel_rfl) (by kernel_rfl) (by kernel_rfl) (fun _ _ _ h => h) (HC9.out) (Or.inl ⟨by first | kernel_rfl | rfl, ?_⟩) ?_; rotate_left; (intro wx hx; go_simp) <;> (with_reducible rfl); (try simp only [Act.put, nq1, nq2, nq3, nq4, nq5, nq6])); (refine wpG_take (i := 8) (v := ?_) rfl (by kernel_rfl) (by kernel_rfl) (by kernel_rfl) (fun _ _ _ h => h) (HC9.out) (Or.inl ⟨by first | kernel_rfl | rfl, ?_⟩) ?_; rotate_left; (intro wx hx; go_simp) <;> (with_reducible rfl); (try simp only [Act.put, nq1, nq2, nq3, nq4, nq5, nq6])); (refine wpG_take (i := 9) (v := ?_) rfl (by kernel_rfl) (by kernel_rfl) (by kernel_rfl) (fun _ _ _ h => h) (HC9.out) (Or.inl ⟨by first | kernel_rfl | rfl, ?_⟩) ?_; rotate_left; (intro wx hx; go_simp) <;> (with_reducible rfl); (try simp only [Act.put, nq1, nq2, nq3, nq4, nq5, nq6])); (refine wpG_take (i := 10) (v := ?_) rfl (by kernel_rfl) (by kernel_rfl) (by kernel_rfl) (fun _ _ _ h => h) (HC9.out) (Or.inl ⟨by first | kernel_rfl | rfl, ?_⟩) ?_; rotate_left; (intro wx hx; go_simp) <;> (with_reducible rfl); (try simp only [Act.put, nq1, nq2, nq3, nq4, nq5, nq6])); (refine wpG_take (i := 11) (v := ?_) rfl (by kernel_rfl) (by kernel_rfl) (by kernel_rfl) (fun _ _ _ h => h) (HC9.out) (Or.inl ⟨by first | kernel_rfl | rfl, ?_⟩) ?_; rotate_left; (intro wx hx; go_simp) <;> (with_reducible rfl); (try simp only [Act.put, nq1, nq2, nq3, nq4, nq5, nq6]))
  (refine wpG_one (i := 6) (by kernel_rfl) rfl ?_; intro K hK; (try simp only [Act.put, nq1, nq2, nq3, nq4, nq5, nq6]))
  refine step_call rfl rfl enBehind rfl (show Calls Tryz.prog _ _ _ (fun e w' => ∃ B' d', e = .returned (.slice B' 8 d') ∧ St w6.drew NoB w' [.row (.slice B' 8 d') 5 1 8 (bvs (beL 8 0))]) from behind_any (w0 := w6.drew) (M := NoB) (H := []) none 0 0 0 [] w6.drew rfl (by decide) (by decide) ((St.init w6.drew NoB).row (Below.refl _ _) (World.ownsRow_nil _ _ _ 1))) ?_
  rintro e v1 ⟨B1, d1, rfl, hT1⟩
  have F1 : Sn g n v1 := by rw [Sn, hT1.below.cell (p := ⟨g, 9, none⟩) (Nat.lt_of_lt_of_le HGL.out HD.out.below.size)]; exact HC9.out
  refine ⟨_, rfl, hK (Sn g n) _ _ (fun _ h => h) F1 ?_⟩
  clear hK K
  (try simp only [Act.put, nq1, nq2, nq3, nq4, nq5, nq6])
  (refine wpG_one (i := 12) (by kernel_rfl) rfl ?_; intro K hK; (try simp only [Act.put, nq1, nq2, nq3, nq4, nq5, nq6]))
  refine step_call rfl rfl enBehind rfl (show Calls Tryz.prog _ _ _ (fun e w' => ∃ B' d', e = .returned (.slice B' 16 d') ∧ St w6.drew NoB w' [.row (.slice B' 16 d') 5 1 16 (bvs (beL 8 0 ++ beL 8 n8))]) from behind_any (w0 := w6.drew) (M := NoB) (H := []) B1 d1 8 n8 (beL 8 0) v1 rfl (by decide) h8n hT1) ?_
  rintro e v2 ⟨B2, d2, rfl, hT2⟩
  have F2 : Sn g n v2 := by rw [Sn, hT2.below.cell (p := ⟨g, 9, none⟩) (Nat.lt_of_lt_of_le HGL.out HD.out.below.size)]; exact HC9.out
  refine ⟨_, rfl, hK (Sn g n) _ _ (fun _ h => h) F2 ?_⟩
  clear hK K
  (try simp only [Act.put, nq1, nq2, nq3, nq4, nq5, nq6])
  (refine wpG_one (i := 13) (by kernel_rfl) rfl ?_; intro K hK; (try simp only [Act.put, nq1, nq2, nq3, nq4, nq5, nq6]))
  refine step_callv rfl rfl rfl enWrite rfl (write_msg (H := ([] : List Chunk)) g2 A6 c6 l2 B2 d2 16 (beL 8 0 ++ beL 8 n8) v2 (by rw [List.length_append, beL_len, beL_len]) (by have := HL2N.out; omega) (HD.out.call hT2.below) (hT2.rd 0 rfl) (fun _ h => by
    have h2 : w6.heap.size ≤ g2 := by
      rcases hT2.own 0 _ g2 rfl h with h3 | h3
      · exact h3
      · exact h3.elim
    have := HG26.out
    omega)) ?_
  rintro e v3 ⟨rfl, A8, c8, hS9⟩
  have F3 : Sn g n v3 := (hS9.below.cell (p := ⟨g, 9, none⟩) HGL.out).trans HM9.out
  refine ⟨_, rfl, hK (Sn g n) _ _ (fun _ h => h) F3 ?_⟩
  clear hK K
  (try simp only [Act.put, nq1, nq2, nq3, nq4, nq5, nq6])
  refine wpG_done (by kernel_rfl) ?_ _
  clear c9 hx1 hx2 F1 F2 F3
  have hmsg : l2 ++ (beL 8 0 ++ beL 8 n8) = l ++ padL l.length := by
    rw [HN.out, HL2.out, HL1.out, HZ.out, HN8.out]
    unfold padL
    simp only [List.append_assoc]
  rw [hmsg] at hS9
  obtain ⟨s, hs⟩ : ∃ s, s = stO (l ++ padL l.length) := ⟨_, rfl⟩
  have hsh : shaL l = outL s := by unfold shaL; rw [hs]
  have hs8 : s.length = 8 := by rw [hs]; exact (stO_ok _).1
  have hsw : Words s := by rw [hs]; exact (stO_ok _).2
  obtain ⟨b0, b1, b2, b3, b4, b5, b6, b7, hsb⟩ := list8 hs8
  have hC : v3.heap[g2]? = some (.cells (hashC [b0, b1, b2, b3, b4, b5, b6, b7] (.slice A8 ((l ++ padL l.length).length % 128) c8) (l ++ padL l.length).length) 173 (0, 0)) := by
    have := hS9.sat 0 _ rfl
    unfold HCk at this
    rw [← hs, hsb] at this
    exact this
  have p0 : v3.cell? ⟨g2, 0, none⟩ = some (.int .u64 (b0 : Int)) := cell_of_row v3 g2 0 _ _ (0, 0) hC
  have p1 : v3.cell? ⟨g2, 1, none⟩ = some (.int .u64 (b1 : Int)) := cell_of_row v3 g2 1 _ _ (0, 0) hC
  have p2 : v3.cell? ⟨g2, 2, none⟩ = some (.int .u64 (b2 : Int)) := cell_of_row v3 g2 2 _ _ (0, 0) hC
  have p3 : v3.cell? ⟨g2, 3, none⟩ = some (.int .u64 (b3 : Int)) := cell_of_row v3 g2 3 _ _ (0, 0) hC
  have p4 : v3.cell? ⟨g2, 4, none⟩ = some (.int .u64 (b4 : Int)) := cell_of_row v3 g2 4 _ _ (0, 0) hC
  have p5 : v3.cell? ⟨g2, 5, none⟩ = some (.int .u64 (b5 : Int)) := cell_of_row v3 g2 5 _ _ (0, 0) hC
  have p6 : v3.cell? ⟨g2, 6, none⟩ = some (.int .u64 (b6 : Int)) := cell_of_row v3 g2 6 _ _ (0, 0) hC
  have p7 : v3.cell? ⟨g2, 7, none⟩ = some (.int .u64 (b7 : Int)) := cell_of_row v3 g2 7 _ _ (0, 0) hC
  have HSB := hide hsb
  have HSH := hide hsh
  have HSW := hide hsw
  have HS10 : Hid (St w NoB v3 (.row (.slice none 0 0) 5 1 0 [] :: ([] : List Chunk))) := hide (hS9.tail.tail.row (Below.refl _ _) (World.ownsRow_nil _ _ _ 1))
  clear hS9 hmsg hs hsh hs8 hsb hC hT1 hT2 hsw h8n
  go_wp2_with fail
  clear p0 p1 p2 p3 p4 p5 p6 p7
  go_loopw [5, 47] (fun v i wr => SumRel w NoB (([] : List Chunk)) s v i wr) (fun _ i _ => 8 - (intOf i).toNat)
  case atStart => exact ⟨0, none, 0, by omega, rfl, rfl, HS10.out⟩
  case round =>
    clear HS10
    obtain ⟨j, B, d, hj, rfl, rfl, hS⟩ := hrel
    by_cases hlt : j < 8
    · obtain ⟨x, hx⟩ : ∃ x, s[j]? = some x := ⟨s[j]'(by rw [HSB.out]; exact hlt), List.getElem?_eq_getElem _⟩
      have hxw := HSW.out x (List.mem_of_getElem? hx)
      have hix := ixh b0 b1 b2 b3 b4 b5 b6 b7 j x (by rw [← HSB.out]; exact hx)
      have HT := hide (outL_take s j x hx)
      have dk : decide ((j : Int) < 8) = true := by simp; omega
      have ik : (j : Int) < 8 := by omega
      have HBE := hide (behind_any B d (8 * j) x (outL (s.take j)) wr (by rw [outL_len, List.length_take, HSB.out]; show 8 * min j 8 = _; omega) (by omega) hxw hS)
      clear hS hx hxw
      go_wp2_with (go_at_call 134; refine HBE.out.mono ?_; rintro e w9 ⟨B9, d9, rfl, hS9⟩; have HS9 := hide hS9; clear hS9)
      go_roundw
      case rel =>
        refine ⟨j + 1, B9, d9, by omega, by go_num, rfl, ?_⟩
        rw [HT.out]
        exact HS9.out
      case measure => (simp [intOf]) <;> omega
    · obtain rfl : j = 8 := by omega
      have h8 : s.take 8 = s := List.take_of_length_le (by rw [HSB.out]; exact Nat.le_refl _)
      rw [h8, ← HSH.out] at hS
      have HS := hide hS
      clear hS h8
      go_wp2_with fail
      go_ret
      exact ⟨B, d, rfl, HS.out.below, HS.out.ownsRow 0 rfl⟩
end Go.Proofs.YtnohmgpmmhlloaaGreatDoor.S1

namespace Go.Proofs.YtnohmgpmmhlloaaGreatDoor.S1
open Go.RowKit
set_option linter.unusedSimpArgs false

set_option maxRecDepth 100000 in
set_option maxHeartbeats 800000 in
theorem sumf_any (A : Option Addr) (m c : Nat) (l : List UInt8) (w : World) (hl : l.length = m) (hm : m ≤ 900000) (hr : Rd w (.slice A m c) 1 m (bvs l)) :
    Calls Tryz.prog 75 #[.slice A m c] w (Sum64 w (shaL l)) := by
  have HR := hide hr
  have HL := hide hl
  clear hr hl
  go_enter Tryz.func75, Tryz.ntmps75
  go_wp2_with (first
    | (have _q := q2; go_at_call 98; refine (sum_ro g A2 c2 l _ (by rw [HL.out]; exact hm) (hS2.sat 0 _ rfl) (hS2.rd 1 rfl)).mono ?_; rintro e w3 ⟨B, d, rfl, hb3, hr3⟩)
    | (have _q := hb1; go_at_call 96; refine (write_msg (H := []) g none 0 [] A c m l _ HL.out (by simp; omega) hS1 (HR.out.below hb1) (rd_far HR.out (hg1.resolve_right (fun x => x)))).mono ?_; rintro e w2 ⟨rfl, A2, c2, hS2⟩; have q2 : True := trivial)
    | (go_at_call 95; refine (new_any w (St.init w NoB)).mono ?_; rintro e w1 ⟨g, rfl, hS1, hb1⟩; have hg1 := hS1.own 0 _ g rfl rfl))
  go_ret
  exact ⟨B, d, rfl, bnx hS2.below hb3, hr3.base_le hS2.below.size⟩
theorem rd_some {w : World} {B : Option Addr} {n d : Nat} {l : List UInt8} (h : Rd w (.slice B n d) 1 n (bvs l)) (hn : 0 < n) : ∃ b o, B = some ⟨b, o, none⟩ := by
  rcases h.cases with ⟨_, h0, _⟩ | ⟨b, o, sp, c', hv, _, _, _, _, h4, _⟩
  · omega
  · injection hv with hv1 _ _
    have := h4 (by omega)
    subst this hv1
    exact ⟨b, o, rfl⟩
end Go.Proofs.YtnohmgpmmhlloaaGreatDoor.S1

namespace Go.Proofs.YtnohmgpmmhlloaaGreatDoor
open Go.RowKit
set_option linter.unusedSimpArgs false

structure PcV where
  A : Option Addr
  c : Nat
  b : List UInt8
def PcV.cells (p : PcV) : List Value := [.slice p.A p.b.length p.c]
def PcOK (W : World) (p : PcV) : Prop := Rd W (.slice p.A p.b.length p.c) 1 p.b.length (bvs p.b)
def allL (ps : List PcV) : List UInt8 := ps.flatMap PcV.b
theorem pcs_get {ps : List PcV} {k : Nat} {p : PcV} (h : ps[k]? = some p) : (ps.flatMap PcV.cells)[k]? = some (.slice p.A p.b.length p.c) := by
  induction ps generalizing k with
  | nil => simp at h
  | cons q ps ih =>
    cases k with
    | zero =>
      simp only [List.getElem?_cons_zero, Option.some.injEq] at h
      subst h
      rfl
    | succ k => exact ih (by simpa using h)
theorem allL_take {ps : List PcV} {k : Nat} {p : PcV} (h : ps[k]? = some p) : allL (ps.take (k + 1)) = allL (ps.take k) ++ p.b := by
  obtain ⟨hk, hx⟩ := List.getElem?_eq_some_iff.1 h
  unfold allL
  rw [List.take_succ_eq_append_getElem hk, List.flatMap_append, hx]
  simp
theorem allL_le (ps : List PcV) : ∀ k, (allL (ps.take k)).length ≤ (allL ps).length := fun k => by
  have : allL ps = allL (ps.take k) ++ allL (ps.drop k) := by unfold allL; rw [← List.flatMap_append, List.take_append_drop]
  rw [this, List.length_append]
  omega
theorem rd_cell {w : World} {B : Option Addr} {n d : Nat} {xs : List Value} {k : Nat} {u : Value} (h : Rd w (.slice B n d) 1 n xs) (hk : xs[k]? = some u) : ∃ b o, B = some ⟨b, o, none⟩ ∧ w.cell? ⟨b, o + k, none⟩ = some u := by
  rcases h.cases with ⟨_, _, h0⟩ | ⟨b, o, sp, c', hv, _, _, _, hl, h4, hc⟩
  · rw [h0] at hk; simp at hk
  · injection hv with hv1 _ _
    have hkl : k < xs.length := (List.getElem?_eq_some_iff.1 hk).1
    have := h4 (by omega)
    subst this hv1
    exact ⟨b, o, rfl, hc k u hk⟩
def sumS (x : List UInt8) : List UInt8 := S3.redL (S1.shaL x)
def keyA (s : List UInt8) : List UInt8 := S3.clampL ((S1.shaL s).take 32)
def keyP (s : List UInt8) : List UInt8 := (S1.shaL s).drop 32
noncomputable def pubL (s : List UInt8) : List UInt8 := packL (tmE Bp (mulV (keyA s)))
noncomputable def firstL (s m : List UInt8) : List UInt8 := packL (tmE Bp (mulV (sumS (keyP s ++ m))))
noncomputable def sigL (s m : List UInt8) : List UInt8 := firstL s m ++ S3.madL (sumS (firstL s m ++ (pubL s ++ m))) (keyA s) (sumS (keyP s ++ m))
noncomputable def rightL (P : Ed) (p m g : List UInt8) : Bool := decide (packL ((tmE Bp (mulV (g.drop 32))).add (tmE P (mulV (sumS (g.take 32 ++ (p ++ m))))).neg) = g.take 32)
noncomputable def verL (p m g : List UInt8) : Bool := match fromL p with
  | none => false
  | some P => decide (g.length = 64) && S3.mayS (g.drop 32) && rightL P p m g
theorem sumS_len (x : List UInt8) : (sumS x).length = 32 := S3.redL_len _
theorem keyA_len (s : List UInt8) : (keyA s).length = 32 := by unfold keyA; rw [S3.clampL_len, List.length_take, S1.shaL_len]; rfl
theorem keyP_len (s : List UInt8) : (keyP s).length = 32 := by unfold keyP; rw [List.length_drop, S1.shaL_len]
theorem pubL_len (s : List UInt8) : (pubL s).length = 32 := packL_len _
theorem firstL_len (s m : List UInt8) : (firstL s m).length = 32 := packL_len _
theorem sigL_len (s m : List UInt8) : (sigL s m).length = 64 := by unfold sigL; rw [List.length_append, firstL_len, S3.madL_len]
def BN (n : Nat) (w : World) (l : List UInt8) (e : Ending) (w' : World) : Prop := ∃ B d, e = .returned (.slice B n d) ∧ Below w.heap.size w w' ∧ w'.ownsRow w.heap.size 5 1 (.slice B n d) n (bvs l)
theorem bn_of {n : Nat} {w : World} {l : List UInt8} {e : Ending} {w' : World} (hl : l.length = n) (h : ResB 5 w l e w') : BN n w l e w' := by
  unfold ResB at h
  rw [hl] at h
  exact h
theorem redB {A : Option Addr} {n c : Nat} {l : List UInt8} (w : World) (hl : l.length = n) (hn : n ≤ 64) (hr : Rd w (.slice A n c) 1 n (bvs l)) : Calls Tryz.prog 97 #[.slice A n c] w (BN 32 w (S3.redL l)) :=
  (S3.reduce_walk A n c l w hl hn hr).mono fun _ _ h => bn_of (S3.redL_len l) (by unfold S3.redL; exact h)
theorem clampB {A : Option Addr} {c : Nat} {l : List UInt8} (w : World) (hl : l.length = 32) (hr : Rd w (.slice A 32 c) 1 32 (bvs l)) : Calls Tryz.prog 76 #[.slice A 32 c] w (BN 32 w (S3.clampL l)) :=
  (S3.clamp_walk A c l w hl hr).mono fun _ _ h => bn_of (by rw [S3.clampL_len, hl]) h
theorem madB {A B C : Option Addr} {ca cb cc : Nat} {a b c : List UInt8} (w : World) (hla : a.length = 32) (hlb : b.length = 32) (hlc : c.length = 32) (ha : Rd w (.slice A 32 ca) 1 32 (bvs a)) (hb : Rd w (.slice B 32 cb) 1 32 (bvs b)) (hc : Rd w (.slice C 32 cc) 1 32 (bvs c)) :
    Calls Tryz.prog 107 #[.slice A 32 ca, .slice B 32 cb, .slice C 32 cc] w (BN 32 w (S3.madL a b c)) :=
  (S3.muladd_walk A B C ca cb cc a b c w hla hlb hlc ha hb hc).mono fun _ _ h => bn_of (S3.madL_len a b c) (by unfold S3.madL; exact h)
set_option maxRecDepth 100000 in
set_option maxHeartbeats 1600000 in
theorem sum_any (A : Option Addr) (n c : Nat) (ps : List PcV) (w : World) (hn : ps.length = n) (hm : (allL ps).length ≤ 900000) (hr : Rd w (.slice A n c) 1 n (ps.flatMap PcV.cells)) (hp : ∀ p ∈ ps, PcOK w p) :
    Calls Tryz.prog 40 #[.slice A n c] w (BN 32 w (sumS (allL ps))) := by
  have HR := hide hr
  have HE := hide hp
  have HL := hide hn
  have HM := hide hm
  have HM2 := hide (allL_le ps)
  have hnm : n ≤ maxLen := hr.le
  unfold maxLen at hnm
  clear hr hp hn hm
  go_enter Tryz.func40, Tryz.ntmps40
  go_wp2_with (go_at_call 95; refine (S1.new_any w (St.init w NoB)).mono ?_; rintro e w1 ⟨g, rfl, hS1, hb1⟩; have hg1 := hS1.own 0 _ g rfl rfl; have HS := hide hS1; clear hS1)
  have HG := hide (hg1.resolve_right (fun x => x))
  clear hg1 hb1
  go_loopw [12] (fun iv wr => ∃ (k : Nat) (X : Option Addr) (x : Nat), k ≤ n ∧ iv = .int .i64 (k : Int) ∧ Hid (St w NoB wr [S1.HCk g X x (allL (ps.take k)), S1.HRk X x (allL (ps.take k))])) (fun iv _ => n - (intOf iv).toNat)
  case atStart => exact ⟨0, none, 0, by omega, rfl, HS⟩
  case round =>
    clear HS
    obtain ⟨k, X, x, hk, rfl, HS⟩ := hrel
    by_cases hlt : k < n
    · obtain ⟨p, hp⟩ : ∃ p, ps[k]? = some p := ⟨ps[k]'(by rw [HL.out]; exact hlt), List.getElem?_eq_getElem _⟩
      obtain ⟨b, o, hA, hc⟩ := rd_cell (HR.out.st HS.out) (pcs_get hp)
      subst hA
      have HT := hide (allL_take hp)
      have HP := hide (show Rd w (.slice p.A p.b.length p.c) 1 p.b.length (bvs p.b) from HE.out p (List.mem_of_getElem? hp))
      have HF := hide (S1.rd_far HP.out HG.out)
      have dk : decide ((k : Int) < (n : Int)) = true := by simp; omega
      have dk2 : decide (k < n) = true := by simp; omega
      have ik : (k : Int) < (n : Int) := by omega
      have HB := hide (show (allL (ps.take k)).length + p.b.length ≤ 1000000 by
        have h1 := HM2.out (k + 1)
        have h2 := HM.out
        rw [allL_take hp, List.length_append] at h1
        omega)
      clear hp
      go_wp2_with (go_at_call 96; refine (S1.write_msg g X x (allL (ps.take k)) p.A p.c p.b.length p.b _ rfl HB.out HS.out (HP.out.st HS.out) HF.out).mono ?_; rintro e w3 ⟨rfl, X3, x3, hS3⟩; have HS3 := hide hS3; clear hS3)
      go_roundw
      case rel =>
        refine ⟨k + 1, X3, x3, by omega, by go_num, ?_⟩
        rw [HT.out]
        exact HS3
      case measure => (simp [intOf]) <;> omega
    · obtain rfl : k = n := by omega
      rw [List.take_of_length_le (by rw [HL.out]; omega)] at HS
      clear hlt hk
      have dk : decide ((k : Int) < (k : Int)) = false := by simp
      go_wp2_with (first
        | (go_at_call 97; refine (redB _ (S1.shaL_len _) (by decide) (rd_own ho)).mono ?_; rintro e w5 ⟨B5, d5, rfl, hb5, ho5⟩)
        | (go_at_call 98; refine (S1.sum_ro g X x (allL ps) _ HM.out (HS.out.sat 0 _ rfl) (HS.out.rd 1 rfl)).mono ?_; rintro e w4 ⟨B, d, rfl, hb, ho⟩))
      go_ret
      exact ⟨B5, d5, rfl, bnx HS.out.below (bnx hb hb5), ho5.base_le (Nat.le_trans HS.out.below.size hb.size)⟩
theorem enClampMa (args : Array Value) (w : World) : (callFunc 76 args).run Tryz.prog w = .ok (.enter 76 args) w := by kernel_rfl
set_option maxRecDepth 100000 in
set_option maxHeartbeats 1600000 in
theorem key_any (A : Option Addr) (n c : Nat) (l : List UInt8) (w : World) (hl : l.length = n) (hn : n ≤ 100000) (hr : Rd w (.slice A n c) 1 n (bvs l)) :
    Calls Tryz.prog 34 #[.slice A n c] w fun e w' => ∃ B d g c', e = .returned (.tuple #[.slice B 32 d, .slice (some ⟨g, 32, none⟩) 32 c']) ∧ Below w.heap.size w w' ∧ Rd w' (.slice B 32 d) 1 32 (bvs (keyA l)) ∧ Rd w' (.slice (some ⟨g, 32, none⟩) 32 c') 1 32 (bvs (keyP l)) := by
  have HR := hide hr
  have HL := hide hl
  clear hr hl
  go_enter Tryz.func34, Tryz.ntmps34
  go_upto_region 2 with (go_at_call 75; refine (S1.sumf_any A n c l w HL.out (by omega) HR.out).mono ?_; rintro e w4 ⟨B, d, rfl, hb, ho⟩; have HS := hide ((St.init w NoB).row hb ho); clear hb ho)
  obtain ⟨g, c1, hvv, hc1, _, _, _, _⟩ := HS.out.rowOpen 0 rfl (by omega)
  injection hvv with hvv1 _ hvv3
  subst hvv1 hvv3
  have HS := hide HS.out.drew
  have HR1 := hide (rd_take (HS.out.rd 0 rfl) 32 (by omega))
  have HR2 := hide (rd_mid (HS.out.rd 0 rfl) 32 64 (by omega) (by omega))
  have hx : ((S1.shaL l).drop 32).take (64 - 32) = keyP l := by unfold keyP; exact List.take_of_length_le (by rw [List.length_drop, S1.shaL_len]; exact Nat.le_refl _)
  rw [hx] at HR2
  have hcc : ¬ d < 64 := by omega
  have hcc2 : (32 : Int) ≤ (d : Int) := by omega
  have hcc3 : (64 : Int) ≤ (d : Int) := by omega
  refine wp_region_T [(0, 1), (1, 1), (3, 1), (4, 1), (2, 2), (5, 1), (6, 1)] (by kernel_rfl) (by kernel_rfl) (fun _ _ _ _ h => h) ?_
  (refine wpT_pure (v := ?_) rfl rfl ?_ ?_; rotate_left; (intro wx; go_simp; try go_bits) <;> (with_reducible rfl)); (try simp only [Act.put, nq1, nq2, nq3, nq4, nq5, nq6])
  (refine wpT_pure (v := ?_) rfl rfl ?_ ?_; rotate_left; (intro wx; go_simp; try go_bits) <;> (with_reducible rfl)); (try simp only [Act.put, nq1, nq2, nq3, nq4, nq5, nq6])
  (refine wpT_pure (v := ?_) rfl rfl ?_ ?_; rotate_left; (intro wx; go_simp; try go_bits) <;> (with_reducible rfl)); (try simp only [Act.put, nq1, nq2, nq3, nq4, nq5, nq6])
  (refine wpT_pure (v := ?_) rfl rfl ?_ ?_; rotate_left; (intro wx; go_simp; try go_bits) <;> (with_reducible rfl)); (try simp only [Act.put, nq1, nq2, nq3, nq4, nq5, nq6])
  refine wpT_callF rfl rfl rfl enClampMa rfl (clampB _ (by rw [List.length_take, S1.shaL_len]; rfl) HR1.out) ?_; rintro e wy ⟨B5, d5, rfl, hb, ho⟩; refine ⟨_, rfl, hb, ?_⟩; have HS := hide (HS.out.row hb ho); clear ho; (try simp only [Act.put, nq1, nq2, nq3, nq4, nq5, nq6])
  (refine wpT_pure (v := ?_) rfl rfl ?_ ?_; rotate_left; (intro wx; go_simp; try go_bits) <;> (with_reducible rfl)); (try simp only [Act.put, nq1, nq2, nq3, nq4, nq5, nq6])
  (refine wpT_pure (v := ?_) rfl rfl ?_ ?_; rotate_left; (intro wx; go_simp; try go_bits) <;> (with_reducible rfl)); (try simp only [Act.put, nq1, nq2, nq3, nq4, nq5, nq6])
  refine wpT_nil ?_
  go_wp2_with fail
  refine bodyPost_ret (results_tmp2 rfl _ _ _) rfl ?_
  exact ⟨_, _, _, _, rfl, HS.out.below, HS.out.rd 0 rfl, HR2.out.below hb⟩
end Go.Proofs.YtnohmgpmmhlloaaGreatDoor

namespace Go.Proofs.YtnohmgpmmhlloaaGreatDoor
open Go.RowKit

theorem St.join {w0 w w' : World} {M : Nat → Prop} {H H' : List Chunk} (h : St w0 M w H) (h' : St w NoB w' H') : St w0 M w' (H' ++ H) := by
  have hk := h.call h'.below
  have key : ∀ (i : Nat) (c : Chunk), (H' ++ H)[i]? = some c → (i < H'.length ∧ H'[i]? = some c) ∨ (H'.length ≤ i ∧ H[i - H'.length]? = some c) := fun i c hc => by
    rw [List.getElem?_append] at hc
    split at hc
    · rename_i hlt; exact .inl ⟨hlt, hc⟩
    · rename_i hlt; exact .inr ⟨by omega, hc⟩
  have hnew : ∀ (i : Nat) (c : Chunk) (k : Nat), H'[i]? = some c → c.block = some k → w.heap.size ≤ k := fun i c k hc hb => by
    rcases h'.own i c k hc hb with h1 | h1
    · exact h1
    · exact h1.elim
  have hold : ∀ (i : Nat) (c : Chunk) (k : Nat), H[i]? = some c → c.block = some k → k < w.heap.size := fun i c k hc hb => Chunk.lt (h.sat i c hc) hb
  refine ⟨hk.ext, fun i c hc => ?_, fun i c k hc hb => ?_, fun i j c d k hij hc hd hb hb' => ?_⟩
  · rcases key i c hc with ⟨_, h1⟩ | ⟨_, h1⟩
    · exact h'.sat i c h1
    · exact hk.sat _ c h1
  · rcases key i c hc with ⟨_, h1⟩ | ⟨_, h1⟩
    · exact .inl (Nat.le_trans h.ext.size (hnew i c k h1 hb))
    · exact h.own _ c k h1 hb
  · rcases key i c hc with ⟨l1, h1⟩ | ⟨l1, h1⟩ <;> rcases key j d hd with ⟨l2, h2⟩ | ⟨l2, h2⟩
    · exact h'.apart i j c d k hij h1 h2 hb hb'
    · have := hnew i c k h1 hb
      have := hold _ d k h2 hb'
      omega
    · have := hold _ c k h1 hb
      have := hnew j d k h2 hb'
      omega
    · exact h.apart _ _ c d k (by omega) h1 h2 hb hb'
section
variable {P : Program}
end
end Go.Proofs.YtnohmgpmmhlloaaGreatDoor

namespace Go.Proofs.YtnohmgpmmhlloaaGreatDoor
open Go.RowKit
set_option linter.unusedSimpArgs false

def putC (c : Array Value) (k : Nat) : List Value → Array Value
  | [] => c
  | v :: vs => putC (c.setIfInBounds k v) (k + 1) vs
theorem run_storeCells {P : Program} {w0 : World} {M : Nat → Prop} (g k : Nat) (e : TypeId) : ∀ (vs : List Value) (i : Nat) (H : List Chunk) (j : Nat) (c : Array Value) (W : World), (∀ v ∈ vs, v.oneCell' = true) → St w0 M W H → H[j]? = some (.cells g c e) → k + i + vs.length ≤ c.size →
    ∃ W', (storeCells ⟨g, k, none⟩ vs i).run P W = .ok () W' ∧ St w0 M W' (H.set j (.cells g (putC c (k + i) vs) e))
  | [], i, H, j, c, W, _, hS, hj, _ => by
    refine ⟨W, rfl, ?_⟩
    have : H.set j (.cells g (putC c (k + i) []) e) = H := by
      rw [putC]
      obtain ⟨hlt, hx⟩ := List.getElem?_eq_some_iff.1 hj
      rw [← hx, List.set_getElem_self]
    rw [this]
    exact hS
  | v :: vs, i, H, j, c, W, hv, hS, hj, hk => by
    rw [List.length_cons] at hk
    have hc := hS.cell j hj (k + i)
    rw [Array.getElem?_eq_getElem (by omega)] at hc
    have hf := hS.free j hj (k + i)
    have h1 : (store (⟨g, k, none⟩ : Addr) v .plain).run P W = (store (⟨g, k, none⟩ : Addr) v .plain).run P W := rfl
    have hst : (store ((⟨g, k, none⟩ : Addr).add i) v).run P W = .ok () (W.setCell ⟨g, k + i, none⟩ v) := by
      rw [Addr.add_lit, run_store P W _ v _ (hv v (List.mem_cons_self ..)), hc]
      simp [hf]
    obtain ⟨W', hW, hS'⟩ := run_storeCells (P := P) g k e vs (i + 1) (H.set j (.cells g (c.setIfInBounds (k + i) v) e)) j (c.setIfInBounds (k + i) v) _ (fun u hu => hv u (List.mem_cons_of_mem _ hu)) (hS.setCell j hj (k + i) v)
      (by rw [List.getElem?_set_self (List.getElem?_eq_some_iff.1 hj).1]) (by rw [Array.size_setIfInBounds]; omega)
    refine ⟨W', ?_, ?_⟩
    · rw [storeCells]
      simp only [Sem.run_bind, hst, Result.andThen_ok]
      exact hW
    · rw [List.set_set] at hS'
      exact hS'
theorem wp_storeC {P : Program} {w0 w : World} {M : Nat → Prop} {H : List Chunk} {o : Oper} {a : Act} {K : Act → World → Prop} {Q : Exit → Act → World → Prop} {t : TypeId} {x y : Operand} (ho : o.op = .store t x y) (hS : St w0 M w H) (j : Nat) {g k : Nat} {c : Array Value} {e : TypeId} (hj : H[j]? = some (.cells g c e))
    {vs : List Value} (ht : (P.info? t).map (·.size) = some vs.length) (hk : k + vs.length ≤ c.size) (hp : a.eval x = .pointer (some ⟨g, k, none⟩)) (hy : a.eval y = .agg vs.toArray) (hv : ∀ v ∈ vs, v.oneCell' = true)
    (h : ∀ w', St w0 M w' (H.set j (.cells g (putC c k vs) e)) → K (a.put o.dst undef) w') : o.wp P a w K Q := by
  obtain ⟨W', hW, hS'⟩ := run_storeCells (P := P) g k e vs 0 H j c w hv hS hj (by omega)
  have hrun : (storeVar t ⟨g, k, none⟩ (.agg vs.toArray)).run P w = .ok () W' := by
    cases hq : P.info? t with
    | none => rw [hq] at ht; cases ht
    | some q =>
      rw [hq] at ht
      simp only [Option.map_some, Option.some.injEq] at ht
      simp [storeVar, sizeOf, typeInfo, hq, Value.cells, ht, hW]
  unfold Oper.wp execOp
  simp only [ho, hp, hy, Instr.storeAt, Instr.sureAddr, Sem.run_bind, Sem.run_pure, Result.andThen_ok, hrun]
  exact h _ hS'
theorem wl_storeC {P : Program} {w0 w : World} {M : Nat → Prop} {H : List Chunk} {ops : Array Oper} {more : List Oper} {o : Oper} {a : Act} {Q : Exit → Act → World → Prop} (hgd : o.guard = none) {t : TypeId} {x y : Operand} (ho : o.op = .store t x y) (hS : St w0 M w H) (j : Nat) {g k : Nat} {c : Array Value} {e : TypeId} (hj : H[j]? = some (.cells g c e))
    {vs : List Value} (ht : (P.info? t).map (·.size) = some vs.length) (hk : k + vs.length ≤ c.size) (hp : a.eval x = .pointer (some ⟨g, k, none⟩)) (hy : a.eval y = .agg vs.toArray) (hv : ∀ v ∈ vs, v.oneCell' = true)
    (h : ∀ w', St w0 M w' (H.set j (.cells g (putC c k vs) e)) → wpList P ops Q more (a.put o.dst undef) w') : wpList P ops Q (o :: more) a w :=
  wpList_plain hgd fun _ hK => wp_storeC ho hS j hj ht hk hp hy hv fun w' h2 => hK _ _ (h w' h2)
section
variable {w0 w w' : World} {M : Nat → Prop} {H : List Chunk}
end
section
variable {P : Program} {w0 w : World} {M : Nat → Prop} {H : List Chunk}
end
end Go.Proofs.YtnohmgpmmhlloaaGreatDoor

namespace Go.Proofs.YtnohmgpmmhlloaaGreatDoor
open Go.RowKit
set_option linter.unusedSimpArgs false

def PcV.v (p : PcV) : Value := .slice p.A p.b.length p.c
theorem PcOK.on {W W' : World} {p : PcV} (h : PcOK W p) (hb : Below W.heap.size W W') : PcOK W' p := Rd.below h hb
def pc0 : PcV := ⟨none, 0, []⟩
theorem pc0_ok (W : World) : PcOK W pc0 := rd_nil W 1
theorem pc_of {W : World} {A : Option Addr} {n c : Nat} {l : List UInt8} (hl : l.length = n) (h : Rd W (.slice A n c) 1 n (bvs l)) : PcOK W ⟨A, c, l⟩ := by
  subst hl
  exact h
structure Sg where
  b : PcV
  n : PcV
  s : PcV
  k : PcV
  v : PcV
def Sg.cells (x : Sg) : List Value := [x.b.v, x.n.v, x.s.v, x.k.v, x.v.v]
def Sg.val (x : Sg) : Value := .agg #[x.b.v, x.n.v, x.s.v, x.k.v, x.v.v]
theorem Sg.one (x : Sg) : ∀ v ∈ x.cells, v.oneCell' = true := by
  intro v hv
  unfold Sg.cells PcV.v at hv
  simp only [List.mem_cons, List.not_mem_nil, or_false] at hv
  rcases hv with rfl | rfl | rfl | rfl | rfl <;> rfl
structure SgOK (W : World) (x : Sg) : Prop where
  b : PcOK W x.b
  n : PcOK W x.n
  s : PcOK W x.s
  k : PcOK W x.k
  v : PcOK W x.v
theorem SgOK.on {W W' : World} {x : Sg} (h : SgOK W x) (hb : Below W.heap.size W W') : SgOK W' x := ⟨h.b.on hb, h.n.on hb, h.s.on hb, h.k.on hb, h.v.on hb⟩
def sgCells (l : List Sg) : List Value := l.flatMap Sg.cells
structure Tk where
  r : PcV
  A : Option Addr
  c : Nat
  l : List Sg
  e : PcV
  z : PcV
def Tk.row (t : Tk) : Value := .slice t.A t.l.length t.c
def Tk.cells (t : Tk) : List Value := [t.r.v, t.row, t.e.v, t.z.v]
def Tk.val (t : Tk) : Value := .agg #[t.r.v, t.row, t.e.v, t.z.v]
structure TkOK (W : World) (t : Tk) : Prop where
  r : PcOK W t.r
  row : Rd W t.row 5 t.l.length (sgCells t.l)
  l : ∀ x ∈ t.l, SgOK W x
  e : PcOK W t.e
  z : PcOK W t.z
theorem TkOK.on {W W' : World} {t : Tk} (h : TkOK W t) (hb : Below W.heap.size W W') : TkOK W' t := ⟨h.r.on hb, h.row.below hb, fun x hx => (h.l x hx).on hb, h.e.on hb, h.z.on hb⟩
def tk0 : Tk := ⟨pc0, none, 0, [], pc0, pc0⟩
structure Sp where
  b : List UInt8
  n : List UInt8
  s : List UInt8
  k : List UInt8
  v : List UInt8
structure Tp where
  r : List UInt8
  l : List Sp
  e : List UInt8
  z : List UInt8
def Sg.p (x : Sg) : Sp := ⟨x.b.b, x.n.b, x.s.b, x.k.b, x.v.b⟩
def Tk.p (t : Tk) : Tp := ⟨t.r.b, t.l.map Sg.p, t.e.b, t.z.b⟩
def Sp.msg (x : Sp) : List UInt8 := x.b ++ (x.v ++ x.n)
noncomputable def signK (y n : List UInt8) (x : Sp) : Sp := ⟨x.b, pubL n, sigL y (Sp.msg ⟨x.b, pubL n, [], x.k, x.v⟩), x.k, x.v⟩
noncomputable def issueK (r n b : List UInt8) : Tp := ⟨pubL r, [signK r n ⟨b, [], [], [], []⟩], n, []⟩
end Go.Proofs.YtnohmgpmmhlloaaGreatDoor

namespace Go.Proofs.YtnohmgpmmhlloaaGreatDoor
open Go.RowKit
set_option linter.unusedSimpArgs false
set_option maxRecDepth 100000 in
set_option maxHeartbeats 800000 in
theorem clone_b {A : Option Addr} {n c : Nat} {l : List UInt8} (w : World) (hl : l.length = n) (hn : n ≤ 4000000000) (hr : Rd w (.slice A n c) 1 n (bvs l)) : Calls Tryz.prog 33 #[.slice A n c] w (BN n w l) := by
  cases A with
  | none =>
    have h0 : n = 0 ∧ c = 0 := by
      obtain ⟨A', c', hv, _, h1, h2, h3, _⟩ := hr
      injection hv with hv1 hv2 hv3
      subst hv1 hv3
      have := h3 rfl
      omega
    obtain ⟨rfl, rfl⟩ := h0
    have hl : l = [] := List.eq_nil_of_length_eq_zero hl
    subst hl
    have hnil : ∀ W, (binOp .eql 22 (.slice none 0 0) (.slice none 0 0)).run Tryz.prog W = .ok (.bool true) W := fun W => by kernel_rfl
    clear hr hn
    go_enter Tryz.func33, Tryz.ntmps33
    go_wp2_with fail
    go_ret
    exact ⟨none, 0, rfl, Below.refl _ _, World.ownsRow_nil _ _ _ _⟩
  | some a =>
    have hS1 : St w NoB (w.alloc (.cells #[] 5)) [.row (.slice (some ⟨w.heap.size, 0, none⟩) 0 0) 5 1 0 []] := (St.init w NoB).row ((Below.refl w.heap.size w).alloc (Nat.le_refl _) _) ⟨rfl, .inr ⟨w.heap.size, 0, #[], rfl, Nat.le_refl _, by show (w.heap.push _)[w.heap.size]? = _; simp, Nat.le_refl _, by decide, rfl, rfl⟩⟩
    have HS1 := hide hS1
    have HR1 := hide (hr.below ((Below.refl w.heap.size w).alloc (Nat.le_refl _) (.cells #[] 5)))
    clear hS1 hr hl
    have hnil : ∀ W, (binOp .eql 22 (.slice (some a) n c) (.slice none 0 0)).run Tryz.prog W = .ok (.bool false) W := fun W => by kernel_rfl
    go_enter Tryz.func33, Tryz.ntmps33
    go_wp2_with (at_builtin; refine wl_append rfl rfl tyB HS1.out 0 rfl rfl rfl HR1.out (one_bvs l) (by omega) (by decide) ?_; intro A' c' w' hS2; rw [Nat.zero_add, List.nil_append] at hS2; have HS2 := hide hS2; clear hS2)
    go_ret
    exact ⟨_, _, rfl, HS2.out.below, HS2.out.ownsRow 0 rfl⟩
def PcV.ch (p : PcV) : Chunk := .row p.v 5 1 p.b.length (bvs p.b)
def Sg.chs (y : Sg) : List Chunk := [y.b.ch, y.n.ch, y.s.ch, y.k.ch, y.v.ch]
theorem ch_ok {w0 w : World} {M : Nat → Prop} {H : List Chunk} {p : PcV} (h : St w0 M w H) (hc : p.ch ∈ H) : PcOK w p := by
  obtain ⟨i, hi⟩ := List.getElem?_of_mem hc
  exact h.rd i hi
def SgIn (G : List Chunk) (y : Sg) : Prop := ∀ c ∈ y.chs, c ∈ G
theorem SgIn.ok {w0 w : World} {M : Nat → Prop} {H G : List Chunk} {y : Sg} (h : St w0 M w H) (hg : SgIn G y) (hs : ∀ c ∈ G, c ∈ H) : SgOK w y :=
  ⟨ch_ok h (hs _ (hg _ (by simp [Sg.chs]))), ch_ok h (hs _ (hg _ (by simp [Sg.chs]))), ch_ok h (hs _ (hg _ (by simp [Sg.chs]))), ch_ok h (hs _ (hg _ (by simp [Sg.chs]))), ch_ok h (hs _ (hg _ (by simp [Sg.chs])))⟩
def SgR (w : World) (p : Sp) (e : Ending) (w' : World) : Prop := ∃ y : Sg, e = .returned y.val ∧ y.p = p ∧ St w NoB w' y.chs
theorem one5 {A1 A2 A3 A4 A5 : Option Addr} {n1 n2 n3 n4 n5 c1 c2 c3 c4 c5 : Nat} : ∀ v ∈ [Value.slice A1 n1 c1, .slice A2 n2 c2, .slice A3 n3 c3, .slice A4 n4 c4, .slice A5 n5 c5], v.oneCell' = true := by
  intro v hv
  simp only [List.mem_cons, List.not_mem_nil, or_false] at hv
  rcases hv with rfl | rfl | rfl | rfl | rfl <;> rfl
theorem szSigned : (Tryz.prog.info? 32).map (·.size) = some 5 := by kernel_rfl
set_option maxRecDepth 100000 in
set_option maxHeartbeats 1600000 in
theorem copied_core (A1 : Option Addr) (n1 c1 : Nat) (l1 : List UInt8) (A2 : Option Addr) (n2 c2 : Nat) (l2 : List UInt8) (A3 : Option Addr) (n3 c3 : Nat) (l3 : List UInt8) (A4 : Option Addr) (n4 c4 : Nat) (l4 : List UInt8) (A5 : Option Addr) (n5 c5 : Nat) (l5 : List UInt8) (w : World) (hl1 : l1.length = n1) (hn1 : n1 ≤ 1000000) (hr1 : Rd w (.slice A1 n1 c1) 1 n1 (bvs l1)) (hl2 : l2.length = n2) (hn2 : n2 ≤ 1000000) (hr2 : Rd w (.slice A2 n2 c2) 1 n2 (bvs l2)) (hl3 : l3.length = n3) (hn3 : n3 ≤ 1000000) (hr3 : Rd w (.slice A3 n3 c3) 1 n3 (bvs l3)) (hl4 : l4.length = n4) (hn4 : n4 ≤ 1000000) (hr4 : Rd w (.slice A4 n4 c4) 1 n4 (bvs l4)) (hl5 : l5.length = n5) (hn5 : n5 ≤ 1000000) (hr5 : Rd w (.slice A5 n5 c5) 1 n5 (bvs l5)) :
    Calls Tryz.prog 74 #[.agg #[.slice A1 n1 c1, .slice A2 n2 c2, .slice A3 n3 c3, .slice A4 n4 c4, .slice A5 n5 c5]] w (SgR w ⟨l1, l2, l3, l4, l5⟩) := by
  have hS0 := ((St.init w NoB).alloc #[.slice A1 n1 c1, .slice A2 n2 c2, .slice A3 n3 c3, .slice A4 n4 c4, .slice A5 n5 c5] 32).alloc #[.slice none 0 0, .slice none 0 0, .slice none 0 0, .slice none 0 0, .slice none 0 0] 32
  rw [size_alloc1] at hS0
  have HS := hide hS0.drew
  have HR1 := hide hr1
  have HL1 := hide hl1
  have HR2 := hide hr2
  have HL2 := hide hl2
  have HR3 := hide hr3
  have HL3 := hide hl3
  have HR4 := hide hr4
  have HL4 := hide hl4
  have HR5 := hide hr5
  have HL5 := hide hl5
  clear hS0 hr1 hl1 hr2 hl2 hr3 hl3 hr4 hl4 hr5 hl5
  have t1 := HS.out.cell 1 rfl 0
  have t2 := HS.out.cell 1 rfl 1
  have t3 := HS.out.cell 1 rfl 2
  have t4 := HS.out.cell 1 rfl 3
  have t5 := HS.out.cell 1 rfl 4
  go_enter Tryz.func74, Tryz.ntmps74
  go_wp2_with fail
  refine wp_region_T [(0, 1), (1, 0), (3, 1), (4, 0), (6, 1), (7, 0), (9, 1), (10, 0), (12, 1), (13, 0), (2, 2), (5, 2), (8, 2), (11, 2), (14, 2), (15, 1), (16, 3)] (by kernel_rfl) (by kernel_rfl) (fun _ _ _ _ h => h) ?_
  have M0 := True.intro
  go_wp2_with (first
    | (clear M4; go_at_call 33; (with_reducible refine (clone_b _ HL5.out (by omega) (HR5.out.below HS.out.below)).mono ?_); rintro e wy ⟨B5, d5, rfl, hb, ho⟩; have HS := hide (HS.out.row hb ho); clear ho; have M5 := True.intro)
    | (clear M3; go_at_call 33; (with_reducible refine (clone_b _ HL4.out (by omega) (HR4.out.below HS.out.below)).mono ?_); rintro e wy ⟨B4, d4, rfl, hb, ho⟩; have HS := hide (HS.out.row hb ho); clear ho; have M4 := True.intro)
    | (clear M2; go_at_call 33; (with_reducible refine (clone_b _ HL3.out (by omega) (HR3.out.below HS.out.below)).mono ?_); rintro e wy ⟨B3, d3, rfl, hb, ho⟩; have HS := hide (HS.out.row hb ho); clear ho; have M3 := True.intro)
    | (clear M1; go_at_call 33; (with_reducible refine (clone_b _ HL2.out (by omega) (HR2.out.below HS.out.below)).mono ?_); rintro e wy ⟨B2, d2, rfl, hb, ho⟩; have HS := hide (HS.out.row hb ho); clear ho; have M2 := True.intro)
    | (clear M0; go_at_call 33; (with_reducible refine (clone_b _ HL1.out (by omega) (HR1.out.below HS.out.below)).mono ?_); rintro e wy ⟨B1, d1, rfl, hb, ho⟩; have HS := hide (HS.out.row hb ho); clear ho; have M1 := True.intro)
    | (refine wpT_nil ?_)   | ((with_reducible refine fromT_refl ?_); (try simp only [Act.put, nq1, nq2, nq3, nq4, nq5, nq6]))   | ((with_reducible refine fromT_mk (by assumption) ?_); (try simp only [Act.put, nq1, nq2, nq3, nq4, nq5, nq6]))   | (refine wpT_pure (v := ?_) rfl rfl ?_ ?_; rotate_left; (intro wx; go_simp; try go_bits) <;> (with_reducible rfl); (try simp only [Act.put, nq1, nq2, nq3, nq4, nq5, nq6]))   | (refine wpT_load (v := ?_) rfl rfl rfl ?_ ?_; rotate_left; (go_simp; try go_bits) <;> (with_reducible rfl); (try simp only [Act.put, nq1, nq2, nq3, nq4, nq5, nq6]))   | (refine wpT_read (v := ?_) rfl rfl ?_ ?_; rotate_left; (intro wx hx; go_simp; try go_bits) <;> (with_reducible rfl); (try simp only [Act.put, nq1, nq2, nq3, nq4, nq5, nq6]))   | (refine wpT_call rfl rfl ?_; intro K hK)     | (refine wpT_skip rfl rfl ?_; (try simp only [Act.put, nq1, nq2, nq3, nq4, nq5, nq6])))
  refine wpT_late rfl rfl ?_
  intro K hK
  refine wp_storeC rfl HS.out 5 rfl (vs := [.slice B1 n1 d1, .slice B2 n2 d2, .slice B3 n3 d3, .slice B4 n4 d4, .slice B5 n5 d5]) szSigned (Nat.le_refl _) rfl rfl one5 ?_
  intro w5 hS5
  refine hK _ _ ?_
  refine wpT_nil ?_
  have HS5 := hide hS5
  clear hS5
  go_wp2_with fail
  refine bodyPost_ret (results_cell_row rfl _ _ (w.heap.size + 1) _ _ _ _ rfl (HS5.out.heap 5 rfl) Tryz.underlying32 rfl (by kernel_rfl)) rfl ?_
  obtain rfl := HL1.out
  obtain rfl := HL2.out
  obtain rfl := HL3.out
  obtain rfl := HL4.out
  obtain rfl := HL5.out
  exact ⟨⟨⟨B1, d1, l1⟩, ⟨B2, d2, l2⟩, ⟨B3, d3, l3⟩, ⟨B4, d4, l4⟩, ⟨B5, d5, l5⟩⟩, rfl, rfl, HS5.out.pickL [4, 3, 2, 1, 0] (by decide) rfl⟩
end Go.Proofs.YtnohmgpmmhlloaaGreatDoor

namespace Go.Proofs.YtnohmgpmmhlloaaGreatDoor
open Go.RowKit
set_option linter.unusedSimpArgs false
set_option maxRecDepth 100000 in
set_option maxHeartbeats 800000 in
theorem grow_nil (k : Nat) (w : World) (hk : k ≤ 1000000) : Calls Tryz.prog 108 #[.slice none 0 0, .int .i64 (k : Int)] w fun e w' => ∃ A c, e = .returned (.slice A 0 c) ∧ St w NoB w' [.row (.slice A 0 c) 5 1 0 []] := by
  have HSN := hide ((St.init w NoB).row (Below.refl _ _) (World.ownsRow_nil _ _ _ _) : St w NoB w [.row (.slice none 0 0) 5 1 0 (bvs [])])
  have d0 : decide ((k : Int) < 0) = false := by simp
  by_cases h0 : k = 0
  · subst h0
    go_enter Tryz.func108, Tryz.ntmps108
    go_wp2_with fail
    go_ret
    exact ⟨none, 0, rfl, HSN.out⟩
  · have d1 : decide ((0 : Int) < (k : Int)) = true := by simp; omega
    have d2 : (0 : Int) < (k : Int) := by omega
    go_enter Tryz.func108, Tryz.ntmps108
    go_wp2_with (at_builtin; refine wl_appendZ rfl rfl Tryz.underlying22 Tryz.underlying3 infoB HSN.out 0 rfl rfl rfl (by omega) (by omega) ?_; intro A2 c2 w2 hS2; simp only [Nat.zero_add, List.nil_append, List.set_cons_zero] at hS2; have HS := hide hS2; have hcp := rd_cap (HS.out.rd 0 rfl); clear hS2)
    go_ret
    refine ⟨A2, c2, rfl, ?_⟩
    have := HS.out.rowTake 0 (Nat.zero_le _)
    rwa [List.take_zero] at this
set_option maxRecDepth 100000 in
set_option maxHeartbeats 1600000 in
theorem concat_any (A : Option Addr) (n c : Nat) (ps : List PcV) (w : World) (hn : ps.length = n) (hm : (allL ps).length ≤ 900000) (hr : Rd w (.slice A n c) 1 n (ps.flatMap PcV.cells)) (hp : ∀ p ∈ ps, PcOK w p) :
    Calls Tryz.prog 50 #[.slice A n c] w (BN (allL ps).length w (allL ps)) := by
  have HR := hide hr
  have HE := hide hp
  have HL := hide hn
  have HM := hide hm
  have HM2 := hide (allL_le ps)
  have hnm : n ≤ maxLen := hr.le
  unfold maxLen at hnm
  clear hr hp hn hm
  go_enter Tryz.func50, Tryz.ntmps50
  go_wp2_with fail
  go_loopw [3, 11] (fun v3 iv wr => ∃ (k m : Nat), k ≤ n ∧ iv = .int .i64 (k : Int) ∧ v3 = .int .i64 (m : Int) ∧ m = (allL (ps.take k)).length ∧ w = wr) (fun _ iv _ => n - (intOf iv).toNat)
  case atStart => exact ⟨0, 0, by omega, rfl, rfl, rfl, rfl⟩
  case round =>
    obtain ⟨k, m, hk, rfl, rfl, hmm, rfl⟩ := hrel
    by_cases hlt : k < n
    · obtain ⟨p, hp⟩ : ∃ p, ps[k]? = some p := ⟨ps[k]'(by rw [HL.out]; exact hlt), List.getElem?_eq_getElem _⟩
      obtain ⟨b, o, hA, hc⟩ := rd_cell HR.out (pcs_get hp)
      subst hA
      have HT := hide (allL_take hp)
      have dk : decide ((k : Int) < (n : Int)) = true := by simp; omega
      have dk2 : decide (k < n) = true := by simp; omega
      have ik : (k : Int) < (n : Int) := by omega
      have hB : m + p.b.length ≤ 900000 := by
        have h1 := HM2.out (k + 1)
        have h2 := HM.out
        rw [allL_take hp, List.length_append, ← hmm] at h1
        omega
      have dn : decide ((m : Int) + (p.b.length : Int) < 0) = false := by simp; omega
      have HMM := hide hmm
      clear hp hmm
      obtain ⟨q, hq⟩ : ∃ q, q = p.b.length := ⟨_, rfl⟩
      have HQ := hide hq
      rw [← hq] at hc hB dn
      clear hq
      go_wp2_with fail
      go_roundw
      case rel => exact ⟨k + 1, m + q, by omega, by go_num, by go_num, by rw [HT.out, List.length_append, HMM.out, HQ.out], by first | trivial | rfl⟩
      case measure => (simp [intOf]) <;> omega
    · obtain rfl : k = n := by omega
      rw [List.take_of_length_le (by rw [HL.out]; omega)] at hmm
      clear hlt hk
      have dk : decide ((k : Int) < (k : Int)) = false := by simp
      have hmb : m ≤ 1000000 := by have := HM.out; omega
      have HMM := hide hmm
      clear hmm
      go_wp2_with (go_at_call 108; (with_reducible refine (grow_nil m _ hmb).mono ?_); rintro e w2 ⟨A2, c2, rfl, hS2⟩; have HSN := hide hS2; clear hS2)
      go_loopw [6, 27] (fun v6 iv wr => ∃ (j s : Nat) (X : Option Addr) (x : Nat), j ≤ k ∧ iv = .int .i64 (j : Int) ∧ v6 = .slice X s x ∧ s = (allL (ps.take j)).length ∧ Hid (St w NoB wr [.row (.slice X s x) 5 1 s (bvs (allL (ps.take j)))])) (fun _ iv _ => k - (intOf iv).toNat)
      case atStart => exact ⟨0, 0, A2, c2, by omega, rfl, rfl, rfl, HSN⟩
      case round =>
        clear HSN
        obtain ⟨j, s, X, x, hj, rfl, rfl, hss, HS⟩ := hrel
        by_cases hlt : j < k
        · obtain ⟨p, hp⟩ : ∃ p, ps[j]? = some p := ⟨ps[j]'(by rw [HL.out]; exact hlt), List.getElem?_eq_getElem _⟩
          obtain ⟨b, o, hA, hc⟩ := rd_cell (HR.out.st HS.out) (pcs_get hp)
          subst hA
          have HT := hide (allL_take hp)
          have HP := hide (show Rd _ (.slice p.A p.b.length p.c) 1 p.b.length (bvs p.b) from HE.out p (List.mem_of_getElem? hp))
          have dk1 : decide ((j : Int) < (k : Int)) = true := by simp; omega
          have dk2 : decide (j < k) = true := by simp; omega
          have ik : (j : Int) < (k : Int) := by omega
          have HB := hide (show s + p.b.length ≤ 4294967296 by
            have h1 := HM2.out (j + 1)
            have h2 := HM.out
            rw [allL_take hp, List.length_append, ← hss] at h1
            omega)
          have HSS := hide hss
          clear hp hss
          go_wp2_with (at_builtin; refine wl_append rfl rfl tyB8 HS.out 0 rfl rfl rfl (HP.out.st HS.out) (one_bvs _) HB.out (by decide) ?_; intro Az cz wz hS2; simp only [List.set_cons_zero] at hS2; rw [← bvs_append, ← HT.out] at hS2; have HS2 := hide hS2; clear hS2)
          go_roundw
          case rel => exact ⟨j + 1, s + p.b.length, Az, cz, by omega, by go_num, rfl, by rw [HT.out, List.length_append, HSS.out], HS2⟩
          case measure => (simp [intOf]) <;> omega
        · obtain rfl : j = k := by omega
          rw [List.take_of_length_le (by rw [HL.out]; omega)] at HS hss
          clear hlt hj
          have dk1 : decide ((j : Int) < (j : Int)) = false := by simp
          have HSS := hide hss
          clear hss
          go_wp2_with fail
          go_ret
          rw [← HSS.out]
          exact ⟨X, x, rfl, HS.out.below, HS.out.ownsRow 0 rfl⟩
end Go.Proofs.YtnohmgpmmhlloaaGreatDoor

namespace Go.Proofs.YtnohmgpmmhlloaaGreatDoor
open Go.RowKit
set_option linter.unusedSimpArgs false

theorem len_add {a b : List UInt8} {m n : Nat} (h1 : a.length = m) (h2 : b.length = n) : (a ++ b).length = m + n := by rw [List.length_append, h1, h2]
theorem len_add3 {a b c : List UInt8} {m n k : Nat} (h1 : a.length = m) (h2 : b.length = n) (h3 : c.length = k) : (a ++ (b ++ c)).length = m + (n + k) := by rw [List.length_append, List.length_append, h1, h2, h3]
theorem two_ps {A1 A2 : Option Addr} {m1 m2 c1 c2 : Nat} {x1 x2 : List UInt8} {w : World} {o : Obj} (h1 : x1.length = m1) (h2 : x2.length = m2) (r1 : Rd w (.slice A1 m1 c1) 1 m1 (bvs x1)) (r2 : Rd w (.slice A2 m2 c2) 1 m2 (bvs x2)) :
    ∃ ps : List PcV, ps.length = 2 ∧ allL ps = x1 ++ x2 ∧ ps.flatMap PcV.cells = [.slice A1 m1 c1, .slice A2 m2 c2] ∧ ∀ p ∈ ps, PcOK (w.alloc o) p := by
  subst h1 h2
  refine ⟨[⟨A1, c1, x1⟩, ⟨A2, c2, x2⟩], rfl, by simp [allL], rfl, fun p hp => ?_⟩
  simp only [List.mem_cons, List.not_mem_nil, or_false] at hp
  have hb : Below w.heap.size w (w.alloc o) := (Below.refl _ _).alloc (Nat.le_refl _) _
  rcases hp with rfl | rfl
  · exact r1.below hb
  · exact r2.below hb
theorem three_ps {A1 A2 A3 : Option Addr} {m1 m2 m3 c1 c2 c3 : Nat} {x1 x2 x3 : List UInt8} {w : World} {o : Obj} (h1 : x1.length = m1) (h2 : x2.length = m2) (h3 : x3.length = m3) (r1 : Rd w (.slice A1 m1 c1) 1 m1 (bvs x1)) (r2 : Rd w (.slice A2 m2 c2) 1 m2 (bvs x2)) (r3 : Rd w (.slice A3 m3 c3) 1 m3 (bvs x3)) :
    ∃ ps : List PcV, ps.length = 3 ∧ allL ps = x1 ++ (x2 ++ x3) ∧ ps.flatMap PcV.cells = [.slice A1 m1 c1, .slice A2 m2 c2, .slice A3 m3 c3] ∧ ∀ p ∈ ps, PcOK (w.alloc o) p := by
  subst h1 h2 h3
  refine ⟨[⟨A1, c1, x1⟩, ⟨A2, c2, x2⟩, ⟨A3, c3, x3⟩], rfl, by simp [allL], rfl, fun p hp => ?_⟩
  simp only [List.mem_cons, List.not_mem_nil, or_false] at hp
  have hb : Below w.heap.size w (w.alloc o) := (Below.refl _ _).alloc (Nat.le_refl _) _
  rcases hp with rfl | rfl | rfl
  · exact r1.below hb
  · exact r2.below hb
  · exact r3.below hb
theorem sum2 {A1 A2 : Option Addr} {m1 m2 c1 c2 : Nat} {x1 x2 : List UInt8} (w : World) (h1 : x1.length = m1) (h2 : x2.length = m2) (hm : m1 + m2 ≤ 900000) (r1 : Rd w (.slice A1 m1 c1) 1 m1 (bvs x1)) (r2 : Rd w (.slice A2 m2 c2) 1 m2 (bvs x2)) :
    Calls Tryz.prog 40 #[.slice (some ⟨w.heap.size, 0, none⟩) 2 2] (w.alloc (.cells #[.slice A1 m1 c1, .slice A2 m2 c2] 22)) (BN 32 (w.alloc (.cells #[.slice A1 m1 c1, .slice A2 m2 c2] 22)) (sumS (x1 ++ x2))) := by
  obtain ⟨ps, p1, p2, p3, p4⟩ := two_ps (o := .cells #[.slice A1 m1 c1, .slice A2 m2 c2] 22) h1 h2 r1 r2
  have := sum_any _ 2 2 ps _ p1 (by rw [p2, List.length_append, h1, h2]; exact hm) (by rw [p3]; exact rd_new w [.slice A1 m1 c1, .slice A2 m2 c2] 22 1 2 rfl (by decide)) p4
  rw [p2] at this
  exact this
theorem sum3 {A1 A2 A3 : Option Addr} {m1 m2 m3 c1 c2 c3 : Nat} {x1 x2 x3 : List UInt8} (w : World) (h1 : x1.length = m1) (h2 : x2.length = m2) (h3 : x3.length = m3) (hm : m1 + (m2 + m3) ≤ 900000) (r1 : Rd w (.slice A1 m1 c1) 1 m1 (bvs x1)) (r2 : Rd w (.slice A2 m2 c2) 1 m2 (bvs x2)) (r3 : Rd w (.slice A3 m3 c3) 1 m3 (bvs x3)) :
    Calls Tryz.prog 40 #[.slice (some ⟨w.heap.size, 0, none⟩) 3 3] (w.alloc (.cells #[.slice A1 m1 c1, .slice A2 m2 c2, .slice A3 m3 c3] 22)) (BN 32 (w.alloc (.cells #[.slice A1 m1 c1, .slice A2 m2 c2, .slice A3 m3 c3] 22)) (sumS (x1 ++ (x2 ++ x3)))) := by
  obtain ⟨ps, p1, p2, p3, p4⟩ := three_ps (o := .cells #[.slice A1 m1 c1, .slice A2 m2 c2, .slice A3 m3 c3] 22) h1 h2 h3 r1 r2 r3
  have := sum_any _ 3 3 ps _ p1 (by rw [p2, List.length_append, List.length_append, h1, h2, h3]; exact hm) (by rw [p3]; exact rd_new w [.slice A1 m1 c1, .slice A2 m2 c2, .slice A3 m3 c3] 22 1 3 rfl (by decide)) p4
  rw [p2] at this
  exact this
set_option maxRecDepth 100000 in
set_option maxHeartbeats 1600000 in
theorem pub_32 (A : Option Addr) (c : Nat) (l : List UInt8) (w : World) (hl : l.length = 32) (hr : Rd w (.slice A 32 c) 1 32 (bvs l)) : Calls Tryz.prog 11 #[.slice A 32 c] w (BN 32 w (pubL l)) := by
  have HS := hide (St.init w NoB)
  have HR := hide hr
  have HL := hide hl
  have HV := hide (show pubL l = packL (tmE Bp (mulV (keyA l))) from rfl)
  clear hr hl
  go_enter Tryz.func11, Tryz.ntmps11
  have M0 := True.intro
  go_wp2_with (first | (clear M3; go_at_call 37; (with_reducible refine (bytesP32 _ (PtN.v hz2)).mono ?_); rintro e wy ⟨B3, d3, rfl, hb, ho⟩; have HS := hide (HS.out.row hb ho); clear ho; have M4 := True.intro) | (clear M2; go_at_call 36; (with_reducible refine (mulP_any _ _ _ _ _ (PtN.v hz1) (keyA_len _) (by omega) HRA.out).mono ?_); rintro e wy ⟨z2, hz2, rfl, hb⟩; have HS := hide (HS.out.call hb); have M3 := True.intro) | (clear M1; go_at_call 35; (with_reducible refine (baseP _).mono ?_); rintro e wy ⟨z1, hz1, rfl, hb⟩; have HRA := hide (HRA.out.below hb); have HS := hide (HS.out.call hb); have M2 := True.intro) | (clear M0; go_at_call 34; (with_reducible refine (key_any _ _ _ _ _ HL.out (by omega) HR.out).mono ?_); rintro e wy ⟨Ba, da, gp, cp, rfl, hb, hra, hrp⟩; have HRA := hide hra; clear hra hrp; have HS := hide (HS.out.call hb); have M1 := True.intro))
  go_ret
  rw [HV.out]
  exact ⟨_, _, rfl, HS.out.below, HS.out.ownsRow 0 rfl⟩
set_option maxRecDepth 100000 in
set_option maxHeartbeats 1600000 in
theorem sign_32 (A B : Option Addr) (c m d : Nat) (l x : List UInt8) (w : World) (hl : l.length = 32) (hx : x.length = m) (hm : m ≤ 100000) (hr : Rd w (.slice A 32 c) 1 32 (bvs l)) (hrx : Rd w (.slice B m d) 1 m (bvs x)) :
    Calls Tryz.prog 49 #[.slice A 32 c, .slice B m d] w (BN 64 w (sigL l x)) := by
  have HR := hide hr
  have HX := hide hrx
  have HL := hide hl
  have HLX := hide hx
  clear hr hrx hl hx
  go_enter Tryz.func49, Tryz.ntmps49
  go_upto_region 4 with (go_at_call 34; (with_reducible refine (key_any _ _ _ _ _ HL.out (by omega) HR.out).mono ?_); rintro e w1 ⟨Ba, da, gp, cp, rfl, hb, hra, hrp⟩; have HB0 := hide hb; have HRA := hide hra; have HRP := hide hrp; clear hra hrp hb)
  have HS := hide (St.init w1 NoB)
  have HX := hide (HX.out.below HB0.out)
  have HR := hide (HR.out.below HB0.out)
  have M0 := True.intro
  go_wp2_with (first | (clear M7; at_builtin; refine wl_append rfl rfl tyB8 HS.out 3 rfl rfl rfl (HS.out.rd 0 rfl) (one_bvs _) (by omega) (by decide) ?_; intro Az cz wz hS2; simp only [List.set_cons_zero, List.set_cons_succ] at hS2; rw [← bvs_append] at hS2; have HS := hide hS2; clear hS2; have M8 := True.intro) | (clear M6; go_at_call 107; (with_reducible refine (madB _ (sumS_len _) (keyA_len _) (sumS_len _) (HS.out.rd 0 rfl) (HRA.out.below HS.out.below) (HS.out.rd 3 rfl)).mono ?_); rintro e wy ⟨Bm, dm, rfl, hb, ho⟩; have HS := hide (HS.out.row hb ho); clear ho; have M7 := True.intro) | (clear M5; go_at_call 40; (with_reducible refine (sum3 _ (packL_len _) (pubL_len _) HLX.out (by omega) (HS.out.rd 1 rfl) (HS.out.rd 0 rfl) (HX.out.below HS.out.below)).mono ?_); rintro e wy ⟨Bh, dh, rfl, hb, ho⟩; have HS := hide ((HS.out.skip _).row hb ho); clear ho; have M6 := True.intro) | (clear M4; go_at_call 11; (with_reducible refine (pub_32 _ _ _ _ HL.out (HR.out.below HS.out.below)).mono ?_); rintro e wy ⟨Bu, du, rfl, hb, ho⟩; have HS := hide (HS.out.row hb ho); clear ho; have M5 := True.intro) | (clear M3; go_at_call 37; (with_reducible refine (bytesP32 _ (PtN.v hz2)).mono ?_); rintro e wy ⟨Bf, df, rfl, hb, ho⟩; have HS := hide (HS.out.row hb ho); clear ho; have M4 := True.intro) | (clear M2; go_at_call 36; (with_reducible refine (mulP_any _ _ _ _ _ (PtN.v hz1) (sumS_len _) (by omega) (HS.out.rd 0 rfl)).mono ?_); rintro e wy ⟨z2, hz2, rfl, hb⟩; have HS := hide (HS.out.call hb); have M3 := True.intro) | (clear M1; go_at_call 35; (with_reducible refine (baseP _).mono ?_); rintro e wy ⟨z1, hz1, rfl, hb⟩; have HS := hide (HS.out.call hb); have M2 := True.intro) | (clear M0; go_at_call 40; (with_reducible refine (sum2 _ (keyP_len _) HLX.out (by omega) HRP.out HX.out).mono ?_); rintro e wy ⟨Br, dr, rfl, hb, ho⟩; have HS := hide ((HS.out.skip _).row hb ho); clear ho; have M1 := True.intro))
  go_ret
  refine ⟨_, _, rfl, bnx HB0.out HS.out.below, ?_⟩
  have ho := HS.out.ownsRow 3 rfl
  exact ho.base_le HB0.out.size
end Go.Proofs.YtnohmgpmmhlloaaGreatDoor
