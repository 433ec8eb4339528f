/-
  Layer 1: the walks of word, behind, begin, constants.
-/
import Derived.Test.YtabdbddmmbccjaaHa
import Derived.Test.YtabdbddmmbccjaaBl
import Derived.Test.YtabdbddmmbccjaaAz
namespace Go.Proofs.Ytabdbddmmbccjaa
open Go.RowKit

def h0L : List Nat := [7640891576956012808, 13503953896175478587, 4354685564936845355, 11912009170470909681, 5840696475078001361, 11170449401992604703, 2270897969802886507, 6620516959819538809]
def kL : List Nat := [4794697086780616226, 8158064640168781261, 13096744586834688815, 16840607885511220156, 4131703408338449720, 6480981068601479193, 10538285296894168987, 12329834152419229976, 15566598209576043074, 1334009975649890238, 2608012711638119052, 6128411473006802146, 8268148722764581231, 9286055187155687089, 11230858885718282805, 13951009754708518548, 16472876342353939154, 17275323862435702243, 1135362057144423861, 2597628984639134821, 3308224258029322869, 5365058923640841347, 6679025012923562964, 8573033837759648693, 10970295158949994411, 12119686244451234320, 12683024718118986047, 13788192230050041572, 14330467153632333762, 15395433587784984357, 489312712824947311, 1452737877330783856, 2861767655752347644, 3322285676063803686, 5560940570517711597, 5996557281743188959, 7280758554555802590, 8532644243296465576, 9350256976987008742, 10552545826968843579, 11727347734174303076, 12113106623233404929, 14000437183269869457, 14369950271660146224, 15101387698204529176, 15463397548674623760, 17586052441742319658, 1182934255886127544, 1847814050463011016, 2177327727835720531, 2830643537854262169, 3796741975233480872, 4115178125766777443, 5681478168544905931, 6601373596472566643, 7507060721942968483, 8399075790359081724, 8693463985226723168, 9568029438360202098, 10144078919501101548, 10430055236837252648, 11840083180663258601, 13761210420658862357, 14299343276471374635, 14566680578165727644, 15097957966210449927, 16922976911328602910, 17689382322260857208, 500013540394364858, 748580250866718886, 1242879168328830382, 1977374033974150939, 2944078676154940804, 3659926193048069267, 4368137639120453308, 4836135668995329356, 5532061633213252278, 6448918945643986474, 6902733635092675308, 7801388544844847127]
/-- Bytes as a number, big end first; a number's bytes. -/
def beV (l : List UInt8) : Nat := l.foldl (fun x c => x * 256 + c.toNat) 0
def beL : Nat → Nat → List UInt8
  | 0, _ => []
  | k + 1, x => UInt8.ofNat (x / 2 ^ (8 * k) % 256) :: beL k x
theorem beL_len : ∀ (k x : Nat), (beL k x).length = k
  | 0, _ => rfl
  | k + 1, x => by rw [beL, List.length_cons, beL_len k x]
theorem beV_take {l : List UInt8} {k : Nat} {c : UInt8} (h : l[k]? = some c) : beV (l.take (k + 1)) = beV (l.take k) * 256 + c.toNat := by
  obtain ⟨hk, hc⟩ := List.getElem?_eq_some_iff.1 h
  unfold beV
  rw [List.take_succ_eq_append_getElem hk, List.foldl_append, hc]
  rfl
theorem beV_lt (l : List UInt8) : ∀ k, k ≤ l.length → beV (l.take k) < 256 ^ k
  | 0, _ => by simp [beV]
  | k + 1, h => by
    obtain ⟨c, hc⟩ : ∃ c, l[k]? = some c := ⟨l[k], List.getElem?_eq_getElem (by omega)⟩
    have ih := beV_lt l k (by omega)
    have := c.toNat_lt
    rw [beV_take hc, Nat.pow_succ]
    omega
theorem shl_or (x c : Nat) (hx : x < 72057594037927936) (hc : c < 256) : bits .or .u64 (IntKind.u64.wrap ((x : Int) * 256)) (c : Int) = ((x * 256 + c : Nat) : Int) := by
  have e : IntKind.u64.wrap ((x : Int) * 256) = ((x * 256 : Nat) : Int) := by rw [IntKind.wrap_u64]; omega
  rw [e, u64_or_nat _ _ (by omega) (by omega), Nat.mul_comm x, show (256 : Nat) = 2 ^ 8 from rfl, ← Nat.two_pow_add_eq_or_of_lt hc]
theorem rd_at0 {w : World} {b o n c size : Nat} {xs : List Value} (h : Rd w (.slice (some ⟨b, o, none⟩) n c) size n xs) {j : Nat} {u : Value} (hu : xs[j]? = some u) : w.cell? ⟨b, o + j, none⟩ = some u := by
  obtain ⟨A', c', e, _, _, _, _, h5⟩ := h
  injection e with e1 _ _
  subst e1
  exact (h5 b o none rfl).2 j u hu
def WordRel (l : List UInt8) (x i : Value) : Prop := ∃ k : Nat, k ≤ l.length ∧ i = .int .i64 (k : Int) ∧ x = .int .u64 (beV (l.take k) : Int)
set_option maxRecDepth 100000 in
set_option maxHeartbeats 800000 in
theorem word_any (A : Option Addr) (c n : Nat) (l : List UInt8) (w : World) (hl : l.length = n) (hn : n ≤ 8) (hr : Rd w (.slice A n c) 1 n (bvs l)) :
    Calls Try.prog 22 #[.slice A n c] w fun e w' => e = .returned (.int .u64 (beV l : Int)) ∧ w = w' := by
  have HL := hide hl
  have HR := hide hr
  clear hl hr
  have hn2 : n ≤ 9223372036854775807 := by omega
  go_enter Try.func22, Try.ntmps22
  go_wp2_with fail
  go_loop [3, 8] (fun x i => WordRel l x i) (fun _ i => n - (intOf i).toNat)
  case atStart => exact ⟨0, Nat.zero_le _, rfl, rfl⟩
  case round =>
    obtain ⟨k, hk, rfl, rfl⟩ := hrel
    have hkn : k ≤ n := by rw [← HL.out]; exact hk
    clear hk
    by_cases hlt : k < n
    · obtain ⟨ch, hc⟩ : ∃ c, l[k]? = some c := ⟨l[k]'(by rw [HL.out]; exact hlt), List.getElem?_eq_getElem _⟩
      obtain ⟨b, o, rfl⟩ : ∃ b o, A = some ⟨b, o, none⟩ := by
        rcases HR.out.cases with ⟨_, h0, _⟩ | ⟨b, o, sp, c', hv, _, _, _, _, h4, _⟩
        · omega
        · injection hv with hv1 _ _
          have := h4 (by omega)
          subst this hv1
          exact ⟨b, o, rfl⟩
      have hcell := rd_at0 HR.out (bvs_get hc)
      have hb := beV_lt l k (by rw [HL.out]; exact hkn)
      have hs := shl_or (beV (l.take k)) ch.toNat (Nat.lt_of_lt_of_le hb (Nat.le_trans (Nat.pow_le_pow_right (by omega) (show k ≤ 7 by omega)) (by decide))) ch.toNat_lt
      have HT := hide (beV_take hc)
      rw [← beV_take hc] at hs
      have hwc : IntKind.u64.wrap (ch.toNat : Int) = (ch.toNat : Int) := by have := ch.toNat_lt; rw [IntKind.wrap_u64]; omega
      have dk : decide ((k : Int) < (n : Int)) = true := by simp; omega
      have ik : (k : Int) < (n : Int) := by omega
      clear hc hb
      have HY : Hid (beV (l.take (k + 1)) = beV (l.take (k + 1))) := hide rfl
      obtain ⟨y, hy⟩ : ∃ y, y = beV (l.take (k + 1)) := ⟨_, rfl⟩
      rw [← hy] at hs
      have HYE := hide hy
      clear hy HY
      generalize beV (l.take k) = x at *
      generalize ch.toNat = cn at *
      go_wp2_with fail
      go_round
      case rel => exact ⟨k + 1, by rw [HL.out]; omega, by go_num, by rw [← HYE.out]⟩
      case measure => (simp [intOf]) <;> omega
    · obtain rfl : k = n := by omega
      go_wp2_with fail
      go_ret
      refine ⟨?_, rfl⟩
      show Ending.returned (.int .u64 ((beV (l.take k) : Nat) : Int)) = _
      rw [List.take_of_length_le (by rw [HL.out]; exact Nat.le_refl _)]
theorem tyB : RowTy Try.prog 22 5 1 1 := rowTy_of (z := .int .u8 0) Try.underlying22 (by kernel_rfl) rfl (by decide)
theorem bvs_snoc (l : List UInt8) (m : Nat) (h : m < 256) : bvs (l ++ [UInt8.ofNat m]) = bvs l ++ [.int .u8 (m : Int)] := by
  simp only [bvs, List.map_append, List.map_cons, List.map_nil, bv, UInt8.toNat_ofNat']
  rw [Nat.mod_eq_of_lt (by omega)]
theorem byte_of (x s : Nat) : IntKind.u8.wrap ((x : Int) / 2 ^ s) = ((x / 2 ^ s % 256 : Nat) : Int) := by
  rw [IntKind.wrap_u8, show (x : Int) / 2 ^ s = ((x / 2 ^ s : Nat) : Int) from by rw [Int.natCast_ediv, Int.natCast_pow]; rfl]
  omega
def BehRel (w0 : World) (M : Nat → Prop) (H : List Chunk) (T : List UInt8) (x : Nat) (v i : Value) (wr : World) : Prop :=
  ∃ (j : Nat) (B : Option Addr) (d n : Nat) (l : List UInt8), j ≤ 8 ∧ i = .int .i64 (8 * (j : Int) - 8) ∧ v = .slice B n d ∧ l.length = n ∧ l ++ beL j x = T ∧ St w0 M wr (.row (.slice B n d) 5 1 n (bvs l) :: H)
set_option maxRecDepth 100000 in
set_option maxHeartbeats 800000 in
theorem behind_any {w0 : World} {M : Nat → Prop} {H : List Chunk} (B : Option Addr) (d n x : Nat) (l : List UInt8) (w : World) (hl : l.length = n) (hn : n ≤ 100000) (hx : x < W1)
    (hS : St w0 M w (.row (.slice B n d) 5 1 n (bvs l) :: H)) :
    Calls Try.prog 18 #[.slice B n d, .int .u64 (x : Int)] w fun e w' => ∃ B' d', e = .returned (.slice B' (n + 8) d') ∧ St w0 M w' (.row (.slice B' (n + 8) d') 5 1 (n + 8) (bvs (l ++ beL 8 x)) :: H) := by
  have HS0 := hide hS
  have HL := hide hl
  have HN := hide hn
  clear hS hl hn
  go_enter Try.func18, Try.ntmps18
  go_wp2_with fail
  go_loopw [0, 5] (fun v i wr => BehRel w0 M H (l ++ beL 8 x) x v i wr) (fun _ i _ => (intOf i + 8).toNat)
  case atStart => exact ⟨8, B, d, n, l, Nat.le_refl _, rfl, rfl, HL.out, rfl, HS0.out⟩
  case round =>
    obtain ⟨j, B2, d2, m, l2, hj, rfl, rfl, hm, hT, hS⟩ := hrel
    have HT := hide hT
    have HM := hide hm
    have HS := hide hS
    have hmb : m ≤ 100008 := by
      have := congrArg List.length hT
      rw [List.length_append, List.length_append, beL_len, beL_len, hm, HL.out] at this
      have := HN.out
      omega
    clear hT hm hS HS0
    cases j with
    | zero =>
      have hTz : l2 = l ++ beL 8 x := by
        have := HT.out
        rwa [beL, List.append_nil] at this
      have hmn : m = n + 8 := by rw [← HM.out, hTz, List.length_append, beL_len, HL.out]
      have HSZ : Hid (St w0 M wr (.row (.slice B2 (n + 8) d2) 5 1 (n + 8) (bvs (l ++ beL 8 x)) :: H)) := hide (by rw [← hmn, ← hTz]; exact HS.out)
      have HMN := hide hmn
      clear hTz hmn
      go_wp2_with fail
      go_ret
      refine ⟨B2, d2, ?_, HSZ.out⟩
      show Ending.returned (.slice B2 m d2) = _
      rw [HMN.out]
    | succ i =>
      have hi : (8 * ((i + 1 : Nat) : Int) - 8) = ((8 * i : Nat) : Int) := by omega
      rw [hi]
      have hby := byte_of x (8 * i)
      have hb2 : x / 2 ^ (8 * i) % 256 < 256 := Nat.mod_lt _ (by decide)
      have hd : decide ((0 : Int) ≤ ((8 * i : Nat) : Int)) = true := by simp; omega
      have hi7 : i ≤ 7 := by omega
      obtain ⟨s, hs⟩ : ∃ s, s = 8 * i := ⟨_, rfl⟩
      rw [← hs] at hby hd hb2 ⊢
      obtain ⟨y, hy⟩ : ∃ y, y = x / 2 ^ s % 256 := ⟨_, rfl⟩
      rw [← hy] at hby hb2
      have hs56 : s ≤ 56 := by omega
      have HY := hide hy
      have HSS := hide hs
      clear hi hy hs hj
      go_wp2_with (at_builtin; refine wl_append1 rfl rfl tyB HS.out 0 rfl rfl (us := [_]) rfl rfl ?_ ?_ (by decide) ?_; (intro u hu; simp only [List.mem_singleton] at hu; subst hu; rfl); (simp only [List.length_singleton]; omega); intro B3 d3 w3 hS3)
      go_roundw
      case rel =>
        refine ⟨i, B3, d3, m + 1, l2 ++ [UInt8.ofNat y], by omega, congrArg (Value.int .i64) (by have := HSS.out; omega), rfl, by rw [List.length_append, HM.out]; rfl, ?_, ?_⟩
        · have := HT.out
          rw [beL, ← HSS.out, ← HY.out] at this
          rw [← this, List.append_assoc]
          rfl
        · rw [bvs_snoc _ _ hb2]
          exact hS3
      case measure => (simp [intOf]) <;> omega
end Go.Proofs.Ytabdbddmmbccjaa
