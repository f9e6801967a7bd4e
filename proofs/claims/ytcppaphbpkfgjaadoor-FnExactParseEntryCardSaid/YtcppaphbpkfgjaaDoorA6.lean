/- Plain laws of the mirrors. -/
import Derived.Test.YtcppaphbpkfgjaaDoorA3
import Derived.Test.YtcppaphbpkfgjaaDoorA5
import Derived.Lib.IndexAny
import Derived.Lib.AtoiAllCases
namespace Go.VS
open Go
set_option linter.unusedVariables false
set_option linter.unusedSimpArgs false

theorem wr_id {n : Int} (h0 : -9223372036854775808 ≤ n) (h1 : n ≤ 9223372036854775807) : IntKind.i64.wrap n = n := by rw [IntKind.wrap_i64]; omega
@[simp] theorem bindO_none {α β : Type} (f : α → Option β) : bindO none f = none := rfl
theorem guardO_pos {α : Type} {c : Prop} [Decidable c] (h : c) {k : Option α} : guardO c k = k := guardO_true h k
theorem iteO_pos {α : Type} {c : Bool} {x y : Option α} (h : c = true) : iteO c x y = x := by rw [h]; rfl
theorem iteO_neg {α : Type} {c : Bool} {x y : Option α} (h : c = false) : iteO c x y = y := by rw [h]; rfl
theorem iteO_dec {α : Type} {p : Prop} [Decidable p] {x y : Option α} : iteO (decide p) x y = if p then x else y := by by_cases h : p <;> simp [h, iteO]
theorem getD_lt {α : Type} {l : List α} {i : Nat} (h : i < l.length) (d : α) : l.getD i d = l[i] := by simp [h]
theorem drop_cons {α : Type} {l : List α} {i : Nat} (h : i < l.length) : l.drop i = l[i] :: l.drop (i + 1) := List.drop_eq_getElem_cons h
theorem take_drop_snoc {α : Type} {l : List α} {i f : Nat} (hf : f ≤ i) (h : i < l.length) : (l.take (i + 1)).drop f = (l.take i).drop f ++ [l[i]] := by
  rw [List.take_add_one, List.drop_append_of_le_length (by simp; omega)]
  simp [h]
theorem take_drop_nil {α : Type} (l : List α) (i : Nat) : (l.take i).drop i = [] := by simp
theorem u8_eq {a b : UInt8} : ((a.toNat : Int) == (b.toNat : Int)) = (a == b) := by
  by_cases h : a = b
  · simp [h]
  · have : a.toNat ≠ b.toNat := fun e => h (UInt8.toNat_inj.1 e)
    have h1 : ((a.toNat : Int) == (b.toNat : Int)) = false := by simpa using (by omega : ¬ (a.toNat : Int) = (b.toNat : Int))
    rw [h1]; simp [h]
end Go.VS
namespace Go.VS
open Go
set_option linter.unusedVariables false
set_option linter.unusedSimpArgs false

def spGo (m : UInt8 → Bool) : List UInt8 → List UInt8 → List (List UInt8)
  | cur, [] => [cur]
  | cur, c :: r => if m c then cur :: spGo m [] r else spGo m (cur ++ [c]) r
def split (s by_ : List UInt8) : List (List UInt8) := spGo (fun c => by_.contains c) [] s
theorem spGo_length (m : UInt8 → Bool) : ∀ (r cur : List UInt8), (spGo m cur r).length ≤ r.length + 1
  | [], cur => by simp [spGo]
  | c :: r, cur => by
    simp only [spGo]
    split
    · have := spGo_length m r []; simp; omega
    · have := spGo_length m r (cur ++ [c]); simp; omega
theorem spGo_pos (m : UInt8 → Bool) : ∀ (r cur : List UInt8), 1 ≤ (spGo m cur r).length
  | [], cur => by simp [spGo]
  | c :: r, cur => by
    simp only [spGo]
    split
    · simp
    · exact spGo_pos m r (cur ++ [c])
theorem spGo_mem (m : UInt8 → Bool) : ∀ (r cur : List UInt8) (p : List UInt8), p ∈ spGo m cur r → p.length ≤ cur.length + r.length
  | [], cur, p, h => by simp [spGo] at h; simp [h]
  | c :: r, cur, p, h => by
    simp only [spGo] at h
    split at h
    · rcases List.mem_cons.1 h with rfl | h
      · omega
      · have := spGo_mem m r [] p h; simp at this ⊢; omega
    · have := spGo_mem m r (cur ++ [c]) p h; simp at this ⊢; omega
theorem split_length (s b : List UInt8) : (split s b).length ≤ s.length + 1 := spGo_length _ _ _
theorem split_mem {s b p : List UInt8} (h : p ∈ split s b) : p.length ≤ s.length := by have := spGo_mem _ _ _ _ h; simpa using this

theorem indexByte_u8 (F : Nat) (b : List UInt8) (c : UInt8) : lib_IndexByte F b (c.toNat : Int) = some (Lib.indexByte b c) := by
  unfold lib_IndexByte
  simp

theorem impl_SplitAny_loop (F : Nat) (s b : List UInt8) (hs : s.length ≤ 1048576) (k : Int → List (List UInt8) → Option (List (List UInt8)))
    (hk : k = fun v1 v2 => guardO (0 ≤ v1 ∧ v1 ≤ (s.length : Int)) <| guardO (v2.length + 1 ≤ maxMade) <| some (v2 ++ [(s.drop v1.toNat)])) :
    ∀ (n i f : Nat) (acc : List (List UInt8)), f ≤ i → i ≤ s.length → s.length < n + i → acc.length ≤ i → impl_SplitAny_L1 F s b k n i f acc = some (acc ++ spGo (fun c => b.contains c) ((s.take i).drop f) (s.drop i)) := by
  intro n
  induction n with
  | zero => intro i f acc h1 h2 h3; omega
  | succ n ih =>
    intro i f acc h1 h2 h3 h4
    rw [impl_SplitAny_L1]
    by_cases hi : i < s.length
    · rw [iteO_pos (by simpa using hi), guardO_pos (by omega), wr_id (by omega) (by omega)]
      simp only [Int.toNat_natCast, getD_lt hi]
      rw [indexByte_u8]
      simp only [bindO_eq, letJ_eq]
      have hc := Lib.contains_iff_indexByte b s[i]
      rw [drop_cons hi, spGo]
      have e1 : ((i : Int) + 1) = ((i + 1 : Nat) : Int) := by omega
      rw [e1]
      cases hm : b.contains s[i] with
      | true =>
        rw [hm] at hc
        rw [iteO_pos hc.symm, guardO_pos (by omega), guardO_pos (by unfold maxMade; omega)]
        rw [ih (i + 1) (i + 1) _ (by omega) (by omega) (by omega) (by simp; omega)]
        simp
      | false =>
        rw [hm] at hc
        rw [iteO_neg hc.symm]
        rw [ih (i + 1) f _ (by omega) (by omega) (by omega) (by omega), take_drop_snoc h1 hi]
        simp
    · have : i = s.length := by omega
      subst this
      rw [iteO_neg (by simp), hk]
      simp only
      rw [guardO_pos (by omega), guardO_pos (by unfold maxMade; omega)]
      simp [spGo]
theorem impl_SplitAny_eq {F : Nat} (hF : 1048578 ≤ F) (s b : List UInt8) (hs : s.length ≤ 1048576) : impl_SplitAny F s b = some (split s b) := by
  unfold impl_SplitAny
  rw [letJ_eq]
  exact (impl_SplitAny_loop F s b hs _ rfl F 0 0 [] (by omega) (by omega) (by omega) (by simp)).trans (by simp [split])

theorem spec_SplitAny_inner (F : Nat) (s b : List UInt8) (hs : s.length ≤ 1048576) (hb : b.length ≤ 1048576) (i f : Nat) (acc : List (List UInt8)) (hi : i < s.length) (hf : f ≤ i) (ha : acc.length ≤ i) (k : Int → List (List UInt8) → Option (List (List UInt8))) :
    ∀ (n j : Nat), j ≤ b.length → b.length < n + j → spec_SplitAny_L2 F s b i f acc k n j = if (b.drop j).contains s[i] then k (((i + 1 : Nat)) : Int) (acc ++ [(s.take i).drop f]) else k f acc := by
  intro n
  induction n with
  | zero => intro j h1 h2; omega
  | succ n ih =>
    intro j h1 h2
    rw [spec_SplitAny_L2]
    by_cases hj : j < b.length
    · rw [iteO_pos (by simpa using hj), guardO_pos (by omega), guardO_pos (by omega)]
      simp only [Int.toNat_natCast, getD_lt hi, getD_lt hj]
      rw [u8_eq, drop_cons hj, List.contains_cons]
      cases he : (s[i] == b[j]) with
      | true =>
        rw [iteO_true, guardO_pos (by omega), guardO_pos (by unfold maxMade; omega), wr_id (by omega) (by omega)]
        simp
      | false =>
        rw [iteO_false, wr_id (by omega) (by omega), show ((j : Int) + 1) = ((j + 1 : Nat) : Int) by omega, ih (j + 1) (by omega) (by omega)]
        simp
    · have : j = b.length := by omega
      subst this
      rw [iteO_neg (by simp)]
      simp
theorem spec_SplitAny_loop (F : Nat) (s b : List UInt8) (hs : s.length ≤ 1048576) (hb : b.length ≤ 1048576) (hF : 1048578 ≤ F) (k : Int → List (List UInt8) → Option (List (List UInt8)))
    (hk : k = fun v1 v2 => guardO (0 ≤ v1 ∧ v1 ≤ (s.length : Int)) <| guardO (v2.length + 1 ≤ maxMade) <| some (v2 ++ [(s.drop v1.toNat)])) :
    ∀ (n i f : Nat) (acc : List (List UInt8)), f ≤ i → i ≤ s.length → s.length < n + i → acc.length ≤ i → spec_SplitAny_L1 F s b k n i f acc = some (acc ++ spGo (fun c => b.contains c) ((s.take i).drop f) (s.drop i)) := by
  intro n
  induction n with
  | zero => intro i f acc h1 h2 h3; omega
  | succ n ih =>
    intro i f acc h1 h2 h3 h4
    rw [spec_SplitAny_L1]
    by_cases hi : i < s.length
    · rw [iteO_pos (by simpa using hi), wr_id (by omega) (by omega)]
      simp only [letJ_eq]
      rw [show (0 : Int) = ((0 : Nat) : Int) from rfl, spec_SplitAny_inner F s b hs hb i f acc hi h1 h4 _ F 0 (by omega) (by omega), drop_cons hi, spGo, List.drop_zero]
      have e1 : ((i : Int) + 1) = ((i + 1 : Nat) : Int) := by omega
      rw [e1]
      cases hm : b.contains s[i] with
      | true =>
        rw [if_pos rfl, ih (i + 1) (i + 1) _ (by omega) (by omega) (by omega) (by simp; omega)]
        simp
      | false =>
        rw [if_neg (by simp), ih (i + 1) f _ (by omega) (by omega) (by omega) (by omega), take_drop_snoc h1 hi]
        simp
    · have : i = s.length := by omega
      subst this
      rw [iteO_neg (by simp), hk]
      simp only
      rw [guardO_pos (by omega), guardO_pos (by unfold maxMade; omega)]
      simp [spGo]
theorem spec_SplitAny_eq {F : Nat} (hF : 1048578 ≤ F) (s b : List UInt8) (hs : s.length ≤ 1048576) (hb : b.length ≤ 1048576) : spec_SplitAny F s b = some (split s b) := by
  unfold spec_SplitAny
  rw [letJ_eq]
  exact (spec_SplitAny_loop F s b hs hb hF _ rfl F 0 0 [] (by omega) (by omega) (by omega) (by simp)).trans (by simp [split])
end Go.VS
namespace Go.VS
open Go
set_option linter.unusedVariables false
set_option linter.unusedSimpArgs false

theorem eqIntS_loop (F : Nat) (l m : List Int) (hl : l.length = m.length) (hb : l.length ≤ 4611686018427387904) : ∀ (n i : Nat), i ≤ l.length → l.length < n + i → laws_eqIntS_L1 F l m (some true) n i = some (decide (l.drop i = m.drop i)) := by
  intro n
  induction n with
  | zero => intro i h1 h2; omega
  | succ n ih =>
    intro i h1 h2
    rw [laws_eqIntS_L1]
    by_cases hi : i < l.length
    · have hi2 : i < m.length := by omega
      rw [iteO_pos (by simpa using hi), guardO_pos (by omega), guardO_pos (by omega), wr_id (by omega) (by omega)]
      simp only [Int.toNat_natCast, getD_lt hi, getD_lt hi2]
      rw [drop_cons hi, drop_cons hi2]
      by_cases he : l[i] = m[i]
      · rw [iteO_neg (by simp [he]), show ((i : Int) + 1) = ((i + 1 : Nat) : Int) by omega, ih (i + 1) (by omega) (by omega)]
        simp only [List.cons.injEq, he, true_and]
      · rw [iteO_pos (by simpa using he)]
        simp only [List.cons.injEq, he, false_and, decide_false]
    · have : i = l.length := by omega
      subst this
      rw [iteO_neg (by simp)]
      simp [hl]
theorem eqIntS_eq {F : Nat} (l m : List Int) (hF : l.length < F) (hb : l.length ≤ 4611686018427387904) : laws_eqIntS F l m = some (decide (l = m)) := by
  unfold laws_eqIntS
  by_cases hl : l.length = m.length
  · rw [iteO_neg (by simp [hl]), letJ_eq]
    exact (eqIntS_loop F l m hl hb F 0 (by omega) (by omega)).trans (by simp)
  · rw [iteO_pos (by simp; omega)]
    have : l ≠ m := fun e => hl (by rw [e])
    simp [this]

/-- k, k + 1, ... -/
def upI (k : Int) : Nat → List Int
  | 0 => []
  | n + 1 => upI k n ++ [k + n]
theorem upI_length (k : Int) : ∀ n, (upI k n).length = n
  | 0 => rfl
  | n + 1 => by simp [upI, upI_length k n]
theorem upI_get (k : Int) : ∀ n i, (h : i < (upI k n).length) → (upI k n)[i] = k + i
  | 0, i, h => by simp [upI] at h
  | n + 1, i, h => by
    simp only [upI, List.getElem_append, upI_length]
    split
    · rename_i hi; exact upI_get k n i _
    · rename_i hi
      simp only [upI, List.length_append, upI_length, List.length_singleton] at h
      have : i = n := by omega
      subst this; simp
theorem markIntS_loop (F : Nat) (k0 : Int) (h0 : 0 ≤ k0) (hk0 : k0 ≤ 4611686018427387904) (K : List Int → Int → Option (Int × List Int)) (hK : K = fun v1 v2 => some (v2, v1)) (N : Nat) (hb : N ≤ 4611686018427387) :
    ∀ (n i : Nat) (l : List Int), l.length = N → i ≤ N → N < n + i → l.take i = upI k0 i → laws_markIntS_L1 F K n l i (k0 + i) = some (k0 + N, upI k0 N) := by
  intro n
  induction n with
  | zero => intro i l h1 h2 h3; omega
  | succ n ih =>
    intro i l h1 h2 h3 hp
    rw [laws_markIntS_L1]
    by_cases hi : i < N
    · rw [iteO_pos (by simp; omega), guardO_pos (by omega), wr_id (by omega) (by omega), wr_id (by omega) (by omega)]
      simp only [Int.toNat_natCast]
      rw [show ((i : Int) + 1) = ((i + 1 : Nat) : Int) by omega, show k0 + (i : Int) + 1 = k0 + ((i + 1 : Nat) : Int) by omega]
      refine ih (i + 1) _ (by simpa using h1) (by omega) (by omega) ?_
      rw [List.take_add_one, upI]
      congr 1
      · rw [List.take_set_of_le (Nat.le_refl i), hp]
      · simp [h1, hi]
    · have : i = N := by omega
      subst this
      rw [iteO_neg (by simp [h1]), hK]
      rw [List.take_of_length_le (by omega)] at hp
      rw [hp]
theorem markIntS_eq {F : Nat} (l : List Int) (k : Int) (hF : l.length < F) (h0 : 0 ≤ k) (hk : k ≤ 4611686018427387904) (hb : l.length ≤ 4611686018427387) : laws_markIntS F l k = some (k + l.length, upI k l.length) := by
  unfold laws_markIntS
  rw [letJ_eq]
  have := markIntS_loop F k h0 hk _ rfl l.length hb F 0 l rfl (by omega) (by omega) (by simp [upI])
  simpa using this
theorem heldIntS_loop (F : Nat) (k0 : Int) (h0 : 0 ≤ k0) (hk0 : k0 ≤ 4611686018427387904) (N : Nat) (hb : N ≤ 4611686018427387) :
    ∀ (n i : Nat), i ≤ N → N < n + i → laws_heldIntS_L1 F (upI k0 N) (fun v1 => some v1) n i (k0 + i) = some (k0 + N) := by
  intro n
  induction n with
  | zero => intro i h1 h2; omega
  | succ n ih =>
    intro i h1 h2
    rw [laws_heldIntS_L1]
    by_cases hi : i < N
    · have hi' : i < (upI k0 N).length := by rw [upI_length]; exact hi
      rw [iteO_pos (by rw [upI_length]; simpa using hi), guardO_pos (by rw [upI_length]; omega), wr_id (by omega) (by omega), wr_id (by omega) (by omega)]
      simp only [Int.toNat_natCast, getD_lt hi', upI_get]
      rw [iteO_neg (by simp), show ((i : Int) + 1) = ((i + 1 : Nat) : Int) by omega, show k0 + (i : Int) + 1 = k0 + ((i + 1 : Nat) : Int) by omega]
      exact ih (i + 1) (by omega) (by omega)
    · have : i = N := by omega
      subst this
      rw [iteO_neg (by rw [upI_length]; simp)]
theorem heldIntS_eq {F : Nat} (N : Nat) (k : Int) (hF : N < F) (h0 : 0 ≤ k) (hk : k ≤ 4611686018427387904) (hb : N ≤ 4611686018427387) : laws_heldIntS F (upI k N) k = some (k + N) := by
  unfold laws_heldIntS
  rw [letJ_eq]
  have := heldIntS_loop F k h0 hk N hb F 0 (by omega) (by omega)
  simpa using this
end Go.VS
namespace Go.VS
open Go
set_option linter.unusedVariables false
set_option linter.unusedSimpArgs false

theorem wr8 {n : Int} (h0 : 0 ≤ n) (h1 : n ≤ 255) : IntKind.u8.wrap n = n := by
  simp only [IntKind.wrap]
  simp [IntKind.signed, IntKind.bits]
  omega
theorem digit_text {r : Nat} (h : r < 10) : bytesOf [IntKind.u8.wrap (48 + (r : Int))] = [UInt8.ofNat (48 + r)] := by
  unfold bytesOf
  rw [wr8 (by omega) (by omega), List.map_cons, List.map_nil, show (48 + (r : Int)).toNat = 48 + r by omega]
theorem tdiv10 (u : Nat) : Int.tdiv (u : Int) 10 = ((u / 10 : Nat) : Int) := (Int.ofNat_tdiv u 10).symm
theorem tmod10 (u : Nat) : Int.tmod (u : Int) 10 = ((u % 10 : Nat) : Int) := (Int.ofNat_tmod u 10).symm
theorem nDigits_le : ∀ (k v : Nat), v < 10 ^ k → Lib.nDigits v ≤ k + 1 := by
  intro k
  induction k with
  | zero => intro v hv; simp at hv; subst hv; rw [Lib.nDigits_small (by omega)]; omega
  | succ k ihk =>
    intro v hv
    by_cases hv10 : v < 10
    · rw [Lib.nDigits_small hv10]; omega
    · rw [Lib.nDigits_big hv10]
      have := ihk (v / 10) (by rw [Nat.pow_succ] at hv; omega)
      omega

theorem FormatInt_loop (F : Nat) (k : List UInt8 → Int → Option (List UInt8)) (hk : k = fun v8 v9 => guardO (1 + v8.length ≤ 9223372036854775807) <| some (bytesOf ([IntKind.u8.wrap (IntKind.i64.wrap ((48 : Int) + v9))] : List Int) ++ v8)) :
    ∀ (m n u : Nat) (acc : List UInt8), m < n → u ≤ 9223372036854775807 → u < 10 ^ m → acc.length + m ≤ 1000 → spec_FormatInt_L1 F k n acc u = some (Lib.decDigits u ++ acc) := by
  intro m
  induction m with
  | zero =>
    intro n u acc hn h1 h2 h3
    obtain ⟨n, rfl⟩ : ∃ n', n = n' + 1 := ⟨n - 1, by omega⟩
    have : u = 0 := by simpa using h2
    subst this
    rw [spec_FormatInt_L1, iteO_neg (by decide), hk]
    simp only
    rw [guardO_pos (by omega), wr_id (by omega) (by omega)]
    rw [Lib.decDigits_one (by omega)]
    exact congrArg (fun x => some (x ++ acc)) (digit_text (r := 0) (by omega))
  | succ m ih =>
    intro n u acc hn h1 h2 h3
    obtain ⟨n, rfl⟩ : ∃ n', n = n' + 1 := ⟨n - 1, by omega⟩
    rw [spec_FormatInt_L1]
    by_cases hu : u < 10
    · rw [iteO_neg (by simp; omega), hk]
      simp only
      rw [guardO_pos (by omega), wr_id (by omega) (by omega), digit_text hu, Lib.decDigits_one hu]
    · rw [iteO_pos (by simp; omega), guardO_pos (by omega), guardO_pos (by omega), guardO_pos (by omega)]
      rw [tdiv10, tmod10, wr_id (n := 48 + ((u % 10 : Nat) : Int)) (by omega) (by omega), wr_id (by omega) (by omega), digit_text (by omega)]
      rw [ih n (u / 10) _ (by omega) (by omega) (by rw [Nat.pow_succ] at h2; omega) (by simp; omega)]
      conv => rhs; rw [Lib.decDigits, dif_neg hu]
      simp
theorem FormatInt_neg (F : Nat) : ∀ (m D u : Nat), m < D → 1 ≤ u → u ≤ 9223372036854775808 → u < 10 ^ m → spec_FormatInt F D (-(u : Int)) = some (45 :: Lib.decDigits u) := by
  intro m
  induction m with
  | zero => intro D u hD h1 h2 h3; simp at h3; omega
  | succ m ih =>
    intro D u hD h1 h2 h3
    obtain ⟨D, rfl⟩ : ∃ n', D = n' + 1 := ⟨D - 1, by omega⟩
    rw [spec_FormatInt, iteO_pos (by simp; omega), guardO_pos (by omega)]
    rw [Int.neg_tdiv, Int.neg_tmod, tdiv10, tmod10, wr_id (n := -((u / 10 : Nat) : Int)) (by omega) (by omega)]
    by_cases hu : u < 10
    · have : u / 10 = 0 := by omega
      rw [this, iteO_pos (by decide), guardO_pos (by omega)]
      rw [show (48 : Int) - -(u : Int) = 48 + (u : Int) by omega, wr_id (by omega) (by omega), digit_text hu, Lib.decDigits_one hu]
      rfl
    · rw [iteO_neg (by simp; omega), guardO_pos (by omega)]
      rw [ih D (u / 10) (by omega) (by omega) (by omega) (by rw [Nat.pow_succ] at h3; omega)]
      rw [show (48 : Int) - -((u % 10 : Nat) : Int) = 48 + ((u % 10 : Nat) : Int) by omega, wr_id (by omega) (by omega), digit_text (by omega)]
      simp only [bindO_eq]
      have hlen : (Lib.decDigits (u / 10)).length ≤ 100 := by
        rw [Lib.decDigits_length]
        have := nDigits_le 20 (u / 10) (by omega)
        omega
      rw [guardO_pos (by omega), guardO_pos (by simp; omega)]
      conv => rhs; rw [Lib.decDigits, dif_neg hu]
      simp
theorem spec_FormatInt_eq {F : Nat} (hF : 30 ≤ F) (n : Int) (h0 : -9223372036854775808 ≤ n) (h1 : n ≤ 9223372036854775807) : spec_FormatInt F F n = some (Lib.itoa n) := by
  unfold Lib.itoa
  split
  · rename_i hn
    have := FormatInt_neg F 20 F n.natAbs (by omega) (by omega) (by omega) (by omega)
    rw [show -((n.natAbs : Nat) : Int) = n by omega] at this
    exact this
  · rename_i hn
    have := FormatInt_loop F _ rfl 20 F n.toNat [] (by omega) (by omega) (by omega) (by simp)
    rw [show ((n.toNat : Nat) : Int) = n by omega] at this
    obtain ⟨G, rfl⟩ : ∃ G, F = G + 1 := ⟨F - 1, by omega⟩
    rw [spec_FormatInt, iteO_neg (by simpa using hn), letJ_eq, this]
    simp
theorem impl_FormatInt_eq (F : Nat) (n : Int) (h0 : -9223372036854775808 ≤ n) (h1 : n ≤ 9223372036854775807) : impl_FormatInt F n = some (Lib.itoa n) := by
  unfold impl_FormatInt lib_Itoa
  rw [guardO_pos ⟨h0, h1⟩]
  rfl

/-! what a numeral spells -/
theorem parseUint10_snoc : ∀ (l : List UInt8) (acc u d : Nat), Lib.parseUint10 acc l = .ok u → d < 10 → u < 1844674407370955162 → u * 10 + d < 18446744073709551616 → Lib.parseUint10 acc (l ++ [UInt8.ofNat (48 + d)]) = .ok (u * 10 + d)
  | [], acc, u, d, h, hd, h1, h2 => by
    simp only [Lib.parseUint10, Lib.NumEnd.ok.injEq] at h
    subst h
    have e : (UInt8.ofNat (48 + d)).toNat = 48 + d := by simp; omega
    simp only [List.nil_append, Lib.parseUint10, e]
    rw [if_pos (by omega), if_neg (by omega), if_neg (by omega)]
    simp
  | c :: r, acc, u, d, h, hd, h1, h2 => by
    simp only [Lib.parseUint10] at h
    simp only [List.cons_append, Lib.parseUint10]
    split at h
    · rename_i hc
      rw [if_pos hc]
      split at h
      · cases h
      · rename_i hx
        rw [if_neg hx]
        split at h
        · cases h
        · rename_i hy
          rw [if_neg hy]
          exact parseUint10_snoc r _ u d h hd h1 h2
    · cases h
theorem parse_decDigits : ∀ (m u : Nat), u < 10 ^ m → u < 18446744073709551616 → Lib.parseUint10 0 (Lib.decDigits u) = .ok u := by
  intro m
  induction m with
  | zero =>
    intro u h1 h2
    have : u = 0 := by simpa using h1
    subst this
    rw [Lib.decDigits_one (by omega)]
    rfl
  | succ m ih =>
    intro u h1 h2
    by_cases hu : u < 10
    · rw [Lib.decDigits_one hu]
      have := parseUint10_snoc [] 0 0 u rfl hu (by omega) (by omega)
      simpa using this
    · rw [Lib.decDigits, dif_neg hu]
      have := parseUint10_snoc (Lib.decDigits (u / 10)) 0 (u / 10) (u % 10) (ih (u / 10) (by rw [Nat.pow_succ] at h1; omega) (by omega)) (by omega) (by omega) (by omega)
      rw [this]
      congr 1
      omega
theorem decDigits_ne (u : Nat) : Lib.decDigits u ≠ [] := by
  intro h
  have := congrArg List.length h
  rw [Lib.decDigits_length] at this
  have := Lib.nDigits_pos u
  simp at *
  omega
/-- Decimal digits. -/
def digs (l : List UInt8) : Prop := ∀ c ∈ l, 48 ≤ c.toNat ∧ c.toNat ≤ 57
theorem decDigits_digs : ∀ (m u : Nat), u < 10 ^ m → digs (Lib.decDigits u) := by
  intro m
  induction m with
  | zero =>
    intro u h1 c hc
    have : u = 0 := by simpa using h1
    subst this
    rw [Lib.decDigits_one (by omega)] at hc
    simp at hc; subst hc; decide
  | succ m ih =>
    intro u h1 c hc
    by_cases hu : u < 10
    · rw [Lib.decDigits_one hu] at hc
      simp at hc; subst hc
      simp; omega
    · rw [Lib.decDigits, dif_neg hu] at hc
      rcases List.mem_append.1 hc with hc | hc
      · exact ih (u / 10) (by rw [Nat.pow_succ] at h1; omega) c hc
      · simp at hc; subst hc
        simp; omega
theorem lt_pow20 {u : Nat} (h : u < 18446744073709551616) : u < 10 ^ 20 := by omega
theorem atoiAll_itoa (n : Int) (h0 : -9223372036854775808 ≤ n) (h1 : n ≤ 9223372036854775807) : Lib.atoiAll (Lib.itoa n) = .ok n := by
  unfold Lib.itoa
  split
  · rename_i hn
    have hp := parse_decDigits 20 n.natAbs (lt_pow20 (by omega)) (by omega)
    rw [Lib.atoiAll_minus]
    unfold Lib.parseMag
    rw [if_neg (decDigits_ne _), hp]
    unfold Lib.signed
    simp only
    rw [if_neg (by omega)]
    congr 1
    omega
  · rename_i hn
    have hp := parse_decDigits 20 n.toNat (lt_pow20 (by omega)) (by omega)
    have hd := decDigits_digs 20 n.toNat (lt_pow20 (by omega))
    have hne := decDigits_ne n.toNat
    generalize Lib.decDigits n.toNat = l at hp hd hne
    cases l with
    | nil => exact absurd rfl hne
    | cons c r =>
      have hc := hd c (by simp)
      rw [Lib.atoiAll_plain c r (by omega) (by omega)]
      unfold Lib.parseMag
      rw [if_neg (by simp), hp]
      unfold Lib.signless
      simp only
      rw [if_neg (by omega)]
      congr 1
      omega
theorem itoa_inj {n m : Int} (hn0 : -9223372036854775808 ≤ n) (hn1 : n ≤ 9223372036854775807) (hm0 : -9223372036854775808 ≤ m) (hm1 : m ≤ 9223372036854775807) (h : Lib.itoa n = Lib.itoa m) : n = m := by
  have h1 := atoiAll_itoa n hn0 hn1
  rw [h, atoiAll_itoa m hm0 hm1] at h1
  injection h1 with h1
  exact h1.symm

/-- What ParseInt gives. -/
def parseI (s : List UInt8) : Int × Bool :=
  match Lib.atoiAll s with
  | .ok v => if Lib.itoa v = s then (v, true) else (0, false)
  | _ => (0, false)
theorem impl_ParseInt_eq (F : Nat) (s : List UInt8) (hs : s.length ≤ 1048576) : impl_ParseInt F s = some (parseI s) := by
  unfold impl_ParseInt lib_Atoi
  rw [guardO_pos (by omega)]
  simp only [bindO_eq, atoiRes, parseI]
  cases hd : Lib.atoiAll s with
  | ok v =>
    obtain ⟨h0, h1⟩ := Lib.atoiAll_bounds hd
    simp only [iteO_false]
    rw [impl_FormatInt_eq F v h0 h1]
    simp only [bindO_eq]
    by_cases he : Lib.itoa v = s
    · simp [he, iteO]
    · have hb : (Lib.itoa v == s) = false := by simpa using he
      simp [he, hb, iteO]
  | range => rfl
  | _ => rfl
theorem parseI_itoa (n : Int) (h0 : -9223372036854775808 ≤ n) (h1 : n ≤ 9223372036854775807) : parseI (Lib.itoa n) = (n, true) := by
  unfold parseI
  rw [atoiAll_itoa n h0 h1]
  simp
theorem parseI_not (s : List UInt8) (h : ∀ n : Int, -9223372036854775808 ≤ n → n ≤ 9223372036854775807 → Lib.itoa n ≠ s) : parseI s = (0, false) := by
  unfold parseI
  cases hd : Lib.atoiAll s with
  | ok v =>
    obtain ⟨h0, h1⟩ := Lib.atoiAll_bounds hd
    simp [h v h0 h1]
  | range => rfl
  | _ => rfl
end Go.VS
namespace Go.VS
open Go
set_option linter.unusedVariables false
set_option linter.unusedSimpArgs false

theorem IsDigits_loop (F : Nat) (l : List UInt8) (hb : l.length ≤ 1048576) : ∀ (n i : Nat), i ≤ l.length → l.length < n + i → spec_IsDigits_L1 F l (some (decide ((l.length : Int) > 0))) n i = some ((l.drop i).all (fun c => decide (48 ≤ c.toNat) && decide (c.toNat ≤ 57)) && decide (0 < l.length)) := by
  intro n
  induction n with
  | zero => intro i h1 h2; omega
  | succ n ih =>
    intro i h1 h2
    rw [spec_IsDigits_L1]
    by_cases hi : i < l.length
    · rw [iteO_pos (by simpa using hi), guardO_pos (by omega), wr_id (by omega) (by omega)]
      simp only [Int.toNat_natCast, getD_lt hi]
      rw [drop_cons hi, List.all_cons]
      by_cases h48 : ((l[i].toNat : Nat) : Int) < 48
      · rw [iteO_pos (by simpa using h48)]
        simp only [bindO_eq, iteO_true]
        have : ¬ 48 ≤ l[i].toNat := by omega
        simp [this]
      · rw [iteO_neg (by simpa using h48), guardO_pos (by omega)]
        simp only [bindO_eq]
        by_cases h57 : ((l[i].toNat : Nat) : Int) > 57
        · rw [iteO_pos (by simpa using h57)]
          have : ¬ l[i].toNat ≤ 57 := by omega
          simp [this]
        · rw [iteO_neg (by simpa using h57), show ((i : Int) + 1) = ((i + 1 : Nat) : Int) by omega, ih (i + 1) (by omega) (by omega)]
          have e1 : 48 ≤ l[i].toNat := by omega
          have e2 : l[i].toNat ≤ 57 := by omega
          simp [e1, e2]
    · have : i = l.length := by omega
      subst this
      rw [iteO_neg (by simp)]
      simp
theorem IsDigits_eq {F : Nat} (l : List UInt8) (hF : 1048578 ≤ F) (hb : l.length ≤ 1048576) : spec_IsDigits F l = some (l.all (fun c => decide (48 ≤ c.toNat) && decide (c.toNat ≤ 57)) && decide (0 < l.length)) := by
  unfold spec_IsDigits
  rw [letJ_eq]
  exact (IsDigits_loop F l hb F 0 (by omega) (by omega)).trans (by simp)
theorem all_digs {l : List UInt8} : l.all (fun c => decide (48 ≤ c.toNat) && decide (c.toNat ≤ 57)) = true ↔ digs l := by
  simp [digs, List.all_eq_true]

def stepD (a : Nat) (c : UInt8) : Nat := a * 10 + (c.toNat - 48)
theorem foldD_ge : ∀ (l : List UInt8) (a : Nat), a ≤ l.foldl stepD a
  | [], a => Nat.le_refl _
  | c :: r, a => by
    rw [List.foldl_cons]
    have := foldD_ge r (stepD a c)
    unfold stepD at this ⊢
    omega
theorem tdiv_neg_le {d a : Nat} (hd : d ≤ 9) : (-(a : Int) < Int.tdiv (-9223372036854775808 + (d : Int)) 10) ↔ 9223372036854775808 < a * 10 + d := by
  rw [show -9223372036854775808 + (d : Int) = -((9223372036854775808 - d : Nat) : Int) by omega, Int.neg_tdiv, tdiv10]
  omega
theorem digit_val {c : UInt8} (h : 48 ≤ c.toNat ∧ c.toNat ≤ 57) : IntKind.i64.wrap (IntKind.i64.wrap ((c.toNat : Nat) : Int) - 48) = ((c.toNat - 48 : Nat) : Int) := by
  rw [wr_id (n := ((c.toNat : Nat) : Int)) (by omega) (by omega), wr_id (by omega) (by omega)]
  omega
theorem ParseInt_step (F : Nat) (l : List UInt8) (hl : digs l) (hb : l.length ≤ 1048576) (k : Int → Option (Int × Bool)) (n i a : Nat) (hi : i < l.length) (ha : a ≤ 9223372036854775808) :
    spec_ParseInt_L1 F l k (n + 1) i (-(a : Int)) = if 9223372036854775808 < stepD a l[i] then some (0, false) else spec_ParseInt_L1 F l k n ((i + 1 : Nat) : Int) (-((stepD a l[i] : Nat) : Int)) := by
  have hd := hl l[i] (List.getElem_mem hi)
  rw [spec_ParseInt_L1, iteO_pos (by simpa using hi), guardO_pos (by omega), guardO_pos (by omega), wr_id (n := (i : Int) + 1) (by omega) (by omega)]
  simp only [Int.toNat_natCast, getD_lt hi]
  rw [digit_val hd]
  have hq : -9223372036854775808 ≤ Int.tdiv (-9223372036854775808 + ((l[i].toNat - 48 : Nat) : Int)) 10 ∧ Int.tdiv (-9223372036854775808 + ((l[i].toNat - 48 : Nat) : Int)) 10 ≤ 0 := by
    rw [show -9223372036854775808 + ((l[i].toNat - 48 : Nat) : Int) = -((9223372036854775808 - (l[i].toNat - 48) : Nat) : Int) by omega, Int.neg_tdiv, tdiv10]
    omega
  rw [wr_id (n := (-9223372036854775808 : Int) + _) (by omega) (by omega), wr_id (n := Int.tdiv _ _) (by omega) (by omega)]
  rw [iteO_dec]
  have key := tdiv_neg_le (d := l[i].toNat - 48) (a := a) (by omega)
  unfold stepD
  by_cases hc : 9223372036854775808 < a * 10 + (l[i].toNat - 48)
  · rw [if_pos (key.2 hc), if_pos hc]
  · rw [if_neg (fun h => hc (key.1 h)), if_neg hc]
    have e1 : IntKind.i64.wrap (-(a : Int) * 10) = -(a : Int) * 10 := wr_id (by omega) (by omega)
    rw [e1, wr_id (by omega) (by omega)]
    congr 1
    omega
theorem ParseInt_good (F : Nat) (l : List UInt8) (hl : digs l) (hb : l.length ≤ 1048576) (k : Int → Option (Int × Bool)) : ∀ (n i a : Nat), i ≤ l.length → l.length < n + i → (l.drop i).foldl stepD a ≤ 9223372036854775808 →
    spec_ParseInt_L1 F l k n i (-(a : Int)) = k (-(((l.drop i).foldl stepD a : Nat) : Int)) := by
  intro n
  induction n with
  | zero => intro i a h1 h2; omega
  | succ n ih =>
    intro i a h1 h2 h3
    have ha := foldD_ge (l.drop i) a
    by_cases hi : i < l.length
    · rw [ParseInt_step F l hl hb k n i a hi (by omega)]
      rw [drop_cons hi, List.foldl_cons] at h3 ⊢
      have := foldD_ge (l.drop (i + 1)) (stepD a l[i])
      rw [if_neg (by omega)]
      exact ih (i + 1) _ (by omega) (by omega) h3
    · have : i = l.length := by omega
      subst this
      rw [spec_ParseInt_L1, iteO_neg (by simp)]
      simp
theorem ParseInt_any (F : Nat) (l : List UInt8) (hl : digs l) (hb : l.length ≤ 1048576) (k : Int → Option (Int × Bool)) : ∀ (n i a : Nat), i ≤ l.length → l.length < n + i → a ≤ 9223372036854775808 →
    spec_ParseInt_L1 F l k n i (-(a : Int)) = some (0, false) ∨ ∃ b : Nat, b ≤ 9223372036854775808 ∧ spec_ParseInt_L1 F l k n i (-(a : Int)) = k (-(b : Int)) := by
  intro n
  induction n with
  | zero => intro i a h1 h2; omega
  | succ n ih =>
    intro i a h1 h2 h3
    by_cases hi : i < l.length
    · rw [ParseInt_step F l hl hb k n i a hi (by omega)]
      split
      · exact .inl rfl
      · exact ih (i + 1) _ (by omega) (by omega) (by omega)
    · have : i = l.length := by omega
      subst this
      right
      refine ⟨a, h3, ?_⟩
      rw [spec_ParseInt_L1, iteO_neg (by simp)]
theorem foldD_decDigits : ∀ (m u : Nat), u < 10 ^ m → (Lib.decDigits u).foldl stepD 0 = u := by
  intro m
  induction m with
  | zero =>
    intro u h1
    have : u = 0 := by simpa using h1
    subst this
    rw [Lib.decDigits_one (by omega)]
    rfl
  | succ m ih =>
    intro u h1
    by_cases hu : u < 10
    · rw [Lib.decDigits_one hu]
      simp [stepD]
      omega
    · rw [Lib.decDigits, dif_neg hu, List.foldl_append, ih (u / 10) (by rw [Nat.pow_succ] at h1; omega)]
      simp [stepD]
      omega
theorem nDigits_le' : ∀ (k v : Nat), v < 10 ^ (k + 1) → Lib.nDigits v ≤ k + 1 := by
  intro k
  induction k with
  | zero => intro v hv; rw [Lib.nDigits_small (by simpa using hv)]; omega
  | succ k ihk =>
    intro v hv
    by_cases hv10 : v < 10
    · rw [Lib.nDigits_small hv10]; omega
    · rw [Lib.nDigits_big hv10]
      have := ihk (v / 10) (by rw [Nat.pow_succ] at hv; omega)
      omega

/-- The reference's end: what has been read, held against the text. -/
def endP (F : Nat) (s : List UInt8) (neg : Bool) (v : Int) : Option (Int × Bool) :=
  letJ (fun (v9 : Int) => (bindO (spec_FormatInt F F v9) fun x10 => iteO (!(x10 == s)) (some (0, false)) (some (v9, true)) : Option (Int × Bool))) fun k4 =>
  iteO (!neg) (iteO (v == (-9223372036854775808)) (some (0, false)) (k4 (IntKind.i64.wrap (0 - v)))) (k4 v)
theorem endP_good {F : Nat} (hF : 30 ≤ F) (s : List UInt8) (n : Int) (h0 : -9223372036854775808 ≤ n) (h1 : n ≤ 9223372036854775807) (hs : Lib.itoa n = s) (neg : Bool) (b : Nat) (hb : b ≤ 9223372036854775808) (hn : n = if neg then -(b : Int) else b) : endP F s neg (-(b : Int)) = some (n, true) := by
  unfold endP
  rw [letJ_eq]
  cases neg with
  | true =>
    simp only [Bool.not_true, iteO_false]
    simp only [if_true] at hn
    rw [← hn, spec_FormatInt_eq hF n h0 h1, bindO_eq, hs]
    simp
  | false =>
    simp only [Bool.not_false, iteO_true]
    simp only [Bool.false_eq_true, if_false] at hn
    rw [iteO_neg (by simp; omega), wr_id (by omega) (by omega), show (0 : Int) - -(b : Int) = n by omega, spec_FormatInt_eq hF n h0 h1, bindO_eq, hs]
    simp
theorem endP_bad {F : Nat} (hF : 30 ≤ F) (s : List UInt8) (hs : ∀ n : Int, -9223372036854775808 ≤ n → n ≤ 9223372036854775807 → Lib.itoa n ≠ s) (neg : Bool) (b : Nat) (hb : b ≤ 9223372036854775808) : endP F s neg (-(b : Int)) = some (0, false) := by
  have fin : ∀ n : Int, -9223372036854775808 ≤ n → n ≤ 9223372036854775807 → (bindO (spec_FormatInt F F n) fun x10 => iteO (!(x10 == s)) (some ((0 : Int), false)) (some (n, true))) = some (0, false) := by
    intro n h0 h1
    rw [spec_FormatInt_eq hF n h0 h1, bindO_eq]
    have : (Lib.itoa n == s) = false := by simpa using hs n h0 h1
    rw [this]
    rfl
  unfold endP
  rw [letJ_eq]
  cases neg with
  | true => exact fin _ (by omega) (by omega)
  | false =>
    simp only [Bool.not_false, iteO_true]
    by_cases hx : (-(b : Int) : Int) = -9223372036854775808
    · rw [iteO_pos (by simpa using hx)]
    · rw [iteO_neg (by simpa using hx), wr_id (by omega) (by omega)]
      exact fin _ (by omega) (by omega)
/-- What stands behind the sign. -/
def body (F : Nat) (s : List UInt8) (neg : Bool) (l : List UInt8) : Option (Int × Bool) :=
  bindO (spec_IsDigits F l) fun x6 => iteO ((!x6) || (decide ((l.length : Int) > 19))) (some (0, false)) (spec_ParseInt_L1 F l (endP F s neg) F 0 0)
theorem spec_ParseInt_body {F : Nat} (s : List UInt8) : spec_ParseInt F s = match s with
    | [] => body F [] false []
    | c :: r => if c = 45 then body F (c :: r) true r else body F (c :: r) false (c :: r) := by
  unfold spec_ParseInt
  cases s with
  | nil => rfl
  | cons c r =>
    rw [iteO_pos (by simp), guardO_pos (by simp)]
    simp only [bindO_eq, letJ_eq]
    by_cases hc : c = 45
    · subst hc
      rw [if_pos rfl]
      have e : ((((45 :: r : List UInt8).getD (0 : Int).toNat 0).toNat : Int) == 45) = true := rfl
      rw [e, iteO_true, guardO_pos (by simp; omega)]
      rfl
    · rw [if_neg hc]
      have e : ((((c :: r : List UInt8).getD (0 : Int).toNat 0).toNat : Int) == 45) = false := by
        have : c.toNat ≠ 45 := fun h => hc (UInt8.toNat_inj.1 h)
        simp
        omega
      rw [e, iteO_false]
      rfl
theorem body_good {F : Nat} (hF : 1048578 ≤ F) (s : List UInt8) (n : Int) (h0 : -9223372036854775808 ≤ n) (h1 : n ≤ 9223372036854775807) (hs : Lib.itoa n = s) (neg : Bool) (b : Nat) (hb : b ≤ 9223372036854775808) (hn : n = if neg then -(b : Int) else b) :
    body F s neg (Lib.decDigits b) = some (n, true) := by
  have hb20 : b < 10 ^ 20 := by omega
  have hd := decDigits_digs 20 b hb20
  have hlen : (Lib.decDigits b).length ≤ 19 := by rw [Lib.decDigits_length]; exact nDigits_le' 18 b (by omega)
  have hne : 0 < (Lib.decDigits b).length := by rw [Lib.decDigits_length]; exact Lib.nDigits_pos b
  unfold body
  rw [IsDigits_eq _ hF (by omega), bindO_eq]
  have ha := all_digs.2 hd
  rw [ha]
  rw [iteO_neg (by simp; omega)]
  have hf := foldD_decDigits 20 b hb20
  have := ParseInt_good F (Lib.decDigits b) hd (by omega) (endP F s neg) F 0 0 (by omega) (by omega) (by rw [List.drop_zero, hf]; exact hb)
  rw [List.drop_zero, hf] at this
  refine Eq.trans ?_ (this.trans (endP_good (by omega) s n h0 h1 hs neg b hb hn))
  rfl
theorem body_bad {F : Nat} (hF : 1048578 ≤ F) (s : List UInt8) (hs : ∀ n : Int, -9223372036854775808 ≤ n → n ≤ 9223372036854775807 → Lib.itoa n ≠ s) (neg : Bool) (l : List UInt8) (hl : l.length ≤ 1048576) : body F s neg l = some (0, false) := by
  unfold body
  rw [IsDigits_eq _ hF hl, bindO_eq]
  by_cases hd : l.all (fun c => decide (48 ≤ c.toNat) && decide (c.toNat ≤ 57)) = true
  · have hcase : ∀ (c : Bool) (x y z : Option (Int × Bool)), x = z → y = z → iteO c x y = z := fun c x y z h1 h2 => by cases c <;> assumption
    refine hcase _ _ _ _ rfl ?_
    · have := ParseInt_any F l (all_digs.1 hd) hl (endP F s neg) F 0 0 (by omega) (by omega) (by omega)
      rcases this with h | ⟨b, hb, h⟩
      · exact h
      · exact h.trans (endP_bad (by omega) s hs neg b hb)
  · rw [iteO_pos (by simp only [Bool.not_eq_true] at hd; rw [hd]; rfl)]
theorem spec_ParseInt_eq {F : Nat} (hF : 1048578 ≤ F) (s : List UInt8) (hl : s.length ≤ 1048576) : spec_ParseInt F s = some (parseI s) := by
  by_cases hx : ∃ n : Int, -9223372036854775808 ≤ n ∧ n ≤ 9223372036854775807 ∧ Lib.itoa n = s
  · obtain ⟨n, h0, h1, hs⟩ := hx
    rw [← hs, parseI_itoa n h0 h1, spec_ParseInt_body, hs]
    by_cases hn : n < 0
    · have e : s = 45 :: Lib.decDigits n.natAbs := by rw [← hs]; unfold Lib.itoa; rw [if_pos hn]
      rw [e]
      simp only [if_true]
      rw [← e]
      exact body_good hF s n h0 h1 hs true n.natAbs (by omega) (by simp; omega)
    · have e : s = Lib.decDigits n.toNat := by rw [← hs]; unfold Lib.itoa; rw [if_neg hn]
      have hd := decDigits_digs 20 n.toNat (by omega)
      have hne := decDigits_ne n.toNat
      have g := body_good hF s n h0 h1 hs false n.toNat (by omega) (by simp; omega)
      rw [← e] at hd hne g
      cases s with
      | nil => exact absurd rfl hne
      | cons c r =>
        have hc := hd c (by simp)
        have : c ≠ 45 := fun h => by subst h; exact absurd hc.1 (by decide)
        simp only [this, if_false]
        exact g
  · have hs : ∀ n : Int, -9223372036854775808 ≤ n → n ≤ 9223372036854775807 → Lib.itoa n ≠ s := fun n h0 h1 e => hx ⟨n, h0, h1, e⟩
    rw [parseI_not s hs, spec_ParseInt_body]
    cases s with
    | nil => exact body_bad hF _ hs _ _ (by simp)
    | cons c r =>
      simp only
      split
      · exact body_bad hF _ hs _ _ (by simp at hl; omega)
      · exact body_bad hF _ hs _ _ hl
end Go.VS
namespace Go.VS
open Go
set_option linter.unusedVariables false
set_option linter.unusedSimpArgs false

def parseAll : List (List UInt8) → List Int → List Int × Bool
  | [], acc => (acc, true)
  | p :: r, acc => if (parseI p).2 then parseAll r (acc ++ [(parseI p).1]) else ([], false)
theorem parseAll_length : ∀ (l : List (List UInt8)) (acc : List Int), (parseAll l acc).1.length ≤ acc.length + l.length
  | [], acc => by simp [parseAll]
  | p :: r, acc => by
    simp only [parseAll]
    split
    · have := parseAll_length r (acc ++ [(parseI p).1]); simp at this ⊢; omega
    · simp
def readL (s : List UInt8) : List Int × Bool := if s = [45] then ([], true) else parseAll (split s [44]) []
theorem readL_length (s : List UInt8) : (readL s).1.length ≤ s.length + 1 := by
  unfold readL
  split
  · simp
  · have := parseAll_length (split s [44]) []
    have := split_length s [44]
    simp at *
    omega
theorem impl_readList_loop (F : Nat) (l : List (List UInt8)) (hl : l.length ≤ 1048577) (hp : ∀ p ∈ l, p.length ≤ 1048576) :
    ∀ (n i : Nat) (acc : List Int), i ≤ l.length → l.length < n + i → acc.length ≤ i → impl_readList_L1 F l (fun v3 => some (v3, true)) n i acc = some (parseAll (l.drop i) acc) := by
  intro n
  induction n with
  | zero => intro i acc h1 h2; omega
  | succ n ih =>
    intro i acc h1 h2 h3
    rw [impl_readList_L1]
    by_cases hi : i < l.length
    · rw [iteO_pos (by simpa using hi), guardO_pos (by omega), wr_id (by omega) (by omega)]
      simp only [Int.toNat_natCast, getD_lt hi]
      rw [impl_ParseInt_eq F _ (hp _ (List.getElem_mem hi)), drop_cons hi, parseAll]
      simp only [bindO_eq]
      cases hx : (parseI l[i]).2 with
      | true =>
        rw [iteO_neg (by simp), guardO_pos (by unfold maxMade; omega), show ((i : Int) + 1) = ((i + 1 : Nat) : Int) by omega, ih (i + 1) _ (by omega) (by omega) (by simp; omega)]
        simp
      | false => rw [iteO_pos (by simp)]; simp
    · have : i = l.length := by omega
      subst this
      rw [iteO_neg (by simp)]
      simp [parseAll]
theorem spec_l25Parse_loop {F : Nat} (hF : 1048578 ≤ F) (l : List (List UInt8)) (hl : l.length ≤ 1048577) (hp : ∀ p ∈ l, p.length ≤ 1048576) :
    ∀ (n i : Nat) (acc : List Int), i ≤ l.length → l.length < n + i → acc.length ≤ i → spec_l25Parse_L1 F l (fun v3 => some (v3, true)) n i acc = some (parseAll (l.drop i) acc) := by
  intro n
  induction n with
  | zero => intro i acc h1 h2; omega
  | succ n ih =>
    intro i acc h1 h2 h3
    rw [spec_l25Parse_L1]
    by_cases hi : i < l.length
    · rw [iteO_pos (by simpa using hi), guardO_pos (by omega), wr_id (by omega) (by omega)]
      simp only [Int.toNat_natCast, getD_lt hi]
      rw [spec_ParseInt_eq hF _ (hp _ (List.getElem_mem hi)), drop_cons hi, parseAll]
      simp only [bindO_eq]
      cases hx : (parseI l[i]).2 with
      | true =>
        rw [iteO_neg (by simp), guardO_pos (by unfold maxMade; omega), show ((i : Int) + 1) = ((i + 1 : Nat) : Int) by omega, ih (i + 1) _ (by omega) (by omega) (by simp; omega)]
        simp
      | false => rw [iteO_pos (by simp)]; simp
    · have : i = l.length := by omega
      subst this
      rw [iteO_neg (by simp)]
      simp [parseAll]
theorem impl_readList_eq {F : Nat} (hF : 1048579 ≤ F) (s : List UInt8) (hs : s.length ≤ 1048576) : impl_readList F s = some (readL s) := by
  unfold impl_readList readL
  by_cases h : s = [45]
  · rw [iteO_pos (by simpa using h), if_pos h]
  · rw [iteO_neg (by simpa using h), if_neg h, impl_SplitAny_eq (by omega) s [44] hs]
    simp only [bindO_eq, letJ_eq]
    have := split_length s [44]
    exact (impl_readList_loop F _ (by omega) (fun p hp => by have := split_mem hp; omega) F 0 [] (by omega) (by omega) (by simp)).trans (by simp)
theorem spec_l25Parse_eq {F : Nat} (hF : 1048579 ≤ F) (s : List UInt8) (hs : s.length ≤ 1048576) : spec_l25Parse F s = some (readL s) := by
  unfold spec_l25Parse readL
  by_cases h : s = [45]
  · rw [iteO_pos (by simpa using h), if_pos h]
  · rw [iteO_neg (by simpa using h), if_neg h, spec_SplitAny_eq (by omega) s [44] hs (by simp)]
    simp only [bindO_eq, letJ_eq]
    have := split_length s [44]
    exact (spec_l25Parse_loop (by omega) _ (by omega) (fun p hp => by have := split_mem hp; omega) F 0 [] (by omega) (by omega) (by simp)).trans (by simp)

/-- What ParseEntry gives. -/
def parseE (s : List UInt8) : GEntry × Bool :=
  match split s [32] with
  | [w0, w1, w2, w3] => if (parseI w0).2 ∧ (readL w1).2 ∧ (readL w2).2 ∧ (readL w3).2 then (⟨(parseI w0).1, (readL w1).1, (readL w2).1, (readL w3).1⟩, true) else (⟨0, [], [], []⟩, false)
  | _ => (⟨0, [], [], []⟩, false)
theorem four {α : Type} {l : List α} (h : l.length = 4) : ∃ a b c d, l = [a, b, c, d] := by
  match l, h with
  | [a, b, c, d], _ => exact ⟨a, b, c, d, rfl⟩
theorem parseE_not {s : List UInt8} (h : (split s [32]).length ≠ 4) : parseE s = (⟨0, [], [], []⟩, false) := by
  unfold parseE
  split
  · rename_i heq; rw [heq] at h; simp at h
  · rfl
theorem impl_ParseEntry_eq {F : Nat} (hF : 1048579 ≤ F) (s : List UInt8) (hs : s.length ≤ 1048576) : impl_ParseEntry F s = some (parseE s) := by
  unfold impl_ParseEntry
  rw [impl_SplitAny_eq (by omega) s [32] hs]
  simp only [bindO_eq]
  by_cases h : (split s [32]).length = 4
  · obtain ⟨w0, w1, w2, w3, hw⟩ := four h
    have hm : ∀ p ∈ split s [32], p.length ≤ 1048576 := fun p hp => by have := split_mem hp; omega
    unfold parseE
    rw [hw] at hm ⊢
    rw [iteO_neg (by simp)]
    simp only [List.mem_cons, List.not_mem_nil, or_false, forall_eq_or_imp, forall_eq] at hm
    have e0 : ([w0, w1, w2, w3] : List (List UInt8)).getD (0 : Int).toNat default = w0 := rfl
    have e1 : ([w0, w1, w2, w3] : List (List UInt8)).getD (1 : Int).toNat default = w1 := rfl
    have e2 : ([w0, w1, w2, w3] : List (List UInt8)).getD (2 : Int).toNat default = w2 := rfl
    have e3 : ([w0, w1, w2, w3] : List (List UInt8)).getD (3 : Int).toNat default = w3 := rfl
    rw [guardO_pos (by simp), e0, impl_ParseInt_eq F w0 hm.1]
    simp only [bindO_eq]
    rw [guardO_pos (by simp), e1, impl_readList_eq hF w1 hm.2.1]
    simp only [bindO_eq]
    rw [guardO_pos (by simp), e2, impl_readList_eq hF w2 hm.2.2.1]
    simp only [bindO_eq]
    rw [guardO_pos (by simp), e3, impl_readList_eq hF w3 hm.2.2.2]
    simp only [bindO_eq]
    cases (parseI w0).2 <;> cases (readL w1).2 <;> cases (readL w2).2 <;> cases (readL w3).2 <;> rfl
  · rw [iteO_pos (by simp; omega), parseE_not h]
theorem spec_ParseEntry_eq {F : Nat} (hF : 1048579 ≤ F) (s : List UInt8) (hs : s.length ≤ 1048576) : spec_ParseEntry F s = some (parseE s) := by
  unfold spec_ParseEntry
  rw [spec_SplitAny_eq (by omega) s [32] hs (by simp)]
  simp only [bindO_eq]
  by_cases h : (split s [32]).length = 4
  · obtain ⟨w0, w1, w2, w3, hw⟩ := four h
    have hm : ∀ p ∈ split s [32], p.length ≤ 1048576 := fun p hp => by have := split_mem hp; omega
    unfold parseE
    rw [hw] at hm ⊢
    rw [iteO_neg (by simp)]
    simp only [List.mem_cons, List.not_mem_nil, or_false, forall_eq_or_imp, forall_eq] at hm
    have e0 : ([w0, w1, w2, w3] : List (List UInt8)).getD (0 : Int).toNat default = w0 := rfl
    have e1 : ([w0, w1, w2, w3] : List (List UInt8)).getD (1 : Int).toNat default = w1 := rfl
    have e2 : ([w0, w1, w2, w3] : List (List UInt8)).getD (2 : Int).toNat default = w2 := rfl
    have e3 : ([w0, w1, w2, w3] : List (List UInt8)).getD (3 : Int).toNat default = w3 := rfl
    rw [guardO_pos (by simp), e0, spec_ParseInt_eq (by omega) w0 hm.1]
    simp only [bindO_eq]
    rw [guardO_pos (by simp), e1, spec_l25Parse_eq hF w1 hm.2.1]
    simp only [bindO_eq]
    rw [guardO_pos (by simp), e2, spec_l25Parse_eq hF w2 hm.2.2.1]
    simp only [bindO_eq]
    rw [guardO_pos (by simp), e3, spec_l25Parse_eq hF w3 hm.2.2.2]
    simp only [bindO_eq]
    cases (parseI w0).2 <;> cases (readL w1).2 <;> cases (readL w2).2 <;> cases (readL w3).2 <;> rfl
  · rw [iteO_pos (by simp; omega), parseE_not h]
/-- What is no longer than a text. -/
def smallE (e : GEntry) (N : Nat) : Prop := e.fTies.length ≤ N ∧ e.fNodes.length ≤ N ∧ e.fValues.length ≤ N
theorem parseE_small (s : List UInt8) : smallE (parseE s).1 (s.length + 1) := by
  unfold parseE
  split
  · rename_i w0 w1 w2 w3 hw
    have hm : ∀ p ∈ split s [32], p.length ≤ s.length := fun p hp => split_mem hp
    rw [hw] at hm
    simp only [List.mem_cons, List.not_mem_nil, or_false, forall_eq_or_imp, forall_eq] at hm
    have h1 := readL_length w1
    have h2 := readL_length w2
    have h3 := readL_length w3
    split
    · exact ⟨by simp; omega, by simp; omega, by simp; omega⟩
    · exact ⟨by simp, by simp, by simp⟩
  · exact ⟨by simp, by simp, by simp⟩
theorem eqEntry_eq {F : Nat} (hF : 1048579 ≤ F) (a b : GEntry) (h : smallE a 1048577) : laws_eqEntry F a b = some (decide (a = b)) := by
  obtain ⟨a0, a1, a2, a3⟩ := a
  obtain ⟨b0, b1, b2, b3⟩ := b
  obtain ⟨h1, h2, h3⟩ := h
  simp only at h1 h2 h3
  unfold laws_eqEntry
  simp only
  rw [eqIntS_eq a1 b1 (by omega) (by omega), eqIntS_eq a2 b2 (by omega) (by omega), eqIntS_eq a3 b3 (by omega) (by omega)]
  simp only [bindO_eq, GEntry.mk.injEq]
  by_cases c0 : a0 = b0
  · subst c0
    rw [iteO_neg (by simp)]
    by_cases c1 : a1 = b1 <;> by_cases c2 : a2 = b2 <;> by_cases c3 : a3 = b3 <;> simp [c1, c2, c3, iteO]
  · rw [iteO_pos (by simpa using c0)]
    simp [c0]
/-- An entry that has been written. -/
def markedE (e : GEntry) (k : Int) : GEntry := ⟨e.fNow, upI k e.fTies.length, upI (k + e.fTies.length) e.fNodes.length, upI (k + e.fTies.length + e.fNodes.length) e.fValues.length⟩
theorem markEntry_eq {F : Nat} (hF : 1048579 ≤ F) (e : GEntry) (h : smallE e 1048577) (k : Int) (h0 : 0 ≤ k) (h1 : k ≤ 1000000000000) : laws_markEntry F e k = some (k + e.fTies.length + e.fNodes.length + e.fValues.length, markedE e k) := by
  obtain ⟨g1, g2, g3⟩ := h
  unfold laws_markEntry
  rw [markIntS_eq _ k (by omega) h0 (by omega) (by omega)]
  simp only [bindO_eq]
  rw [markIntS_eq _ _ (by omega) (by omega) (by omega) (by omega)]
  simp only [bindO_eq]
  rw [markIntS_eq _ _ (by omega) (by omega) (by omega) (by omega)]
  rfl
theorem heldEntry_eq {F : Nat} (hF : 1048579 ≤ F) (e : GEntry) (h : smallE e 1048577) (k : Int) (h0 : 0 ≤ k) (h1 : k ≤ 1000000000000) : laws_heldEntry F (markedE e k) k = some (k + e.fTies.length + e.fNodes.length + e.fValues.length) := by
  obtain ⟨g1, g2, g3⟩ := h
  unfold laws_heldEntry markedE
  simp only
  rw [heldIntS_eq _ k (by omega) h0 (by omega) (by omega)]
  simp only [bindO_eq]
  rw [iteO_neg (by simp; omega), heldIntS_eq _ _ (by omega) (by omega) (by omega) (by omega)]
  simp only [bindO_eq]
  rw [iteO_neg (by simp; omega), heldIntS_eq _ _ (by omega) (by omega) (by omega) (by omega)]
  simp only [bindO_eq]
  rw [iteO_neg (by simp; omega)]
theorem row1 {F : Nat} (hF : 1048579 ≤ F) (s : List UInt8) : laws_FnExactParseEntry F s = some true := by
  unfold laws_FnExactParseEntry
  by_cases hs : s.length ≤ 1048576
  · rw [iteO_neg (by simp; omega), spec_ParseEntry_eq hF s hs, impl_ParseEntry_eq hF s hs]
    have hsm := parseE_small s
    have hsm : smallE (parseE s).1 1048577 := ⟨by have := hsm.1; omega, by have := hsm.2.1; omega, by have := hsm.2.2; omega⟩
    simp only [bindO_eq]
    rw [eqEntry_eq hF _ _ hsm, markEntry_eq hF _ hsm 1 (by omega) (by omega)]
    have hh := heldEntry_eq hF _ hsm 1 (by omega) (by omega)
    simp only [bindO_eq]
    have e1 : (⟨(parseE s).1.fNow, (markedE (parseE s).1 1).fTies, (markedE (parseE s).1 1).fNodes, (markedE (parseE s).1 1).fValues⟩ : GEntry) = markedE (parseE s).1 1 := rfl
    rw [e1, hh]
    simp only [bindO_eq]
    rw [iteO_neg (by simp), iteO_neg (by simp; omega), iteO_neg (by simp), iteO_neg (by simp), iteO_neg (by simp; omega), iteO_neg (by simp)]
  · rw [iteO_pos (by simp; omega)]
end Go.VS
