/- A value semantics of Go code, sound for the model. -/
import Derived.Test.YtcppaphbpkfgjaaDoorA1
namespace Go.VS
open Go Go.RowKit
set_option linter.unusedVariables false
set_option linter.unusedSimpArgs false

/-- A function keeps its contract, of these arguments: it ends, and what comes back is told. -/
def Okp (C : Ctx) (n : FuncId) (args : List AV) (R : AV → List AV → Prop) : Prop :=
  ∀ (w : World) (Φ : Nat → Prop) (H : Tag → TI) (vs : Array Value), C.G w → HInv C w Φ H → vs.size = args.length → (∀ (i : Nat) v a, vs[i]? = some v → args[i]? = some a → RA C w Φ H v a) →
    Calls C.P n vs w fun e w' => ∃ v r o Φ' H', e = .returned v ∧ R r o ∧ HInv C w' Φ' H' ∧ C.G w' ∧ RA C w' Φ' H' v r ∧ (∀ (i : Nat) v a, vs[i]? = some v → o[i]? = some a → RA C w' Φ' H' v a) ∧ Fr w Φ H w' Φ' H'

section
variable {S : Sys} {e : Entry} {Φ : Nat → Prop} {H : Tag → TI} {σ : Env} {a : Act} {w : World} {k : Env → Prop}

theorem lend_name (hi : HInv S.C w Φ H) {l x : LV} {T1 : List Tag} {v : Value} (h : l.lend = some (x, T1)) (hv : RL S.C w Φ H v l) : ∀ g, g ∈ T1 → lends H g := by
  unfold LV.lend at h
  split at h
  · simp only [Option.some.injEq, Prod.mk.injEq] at h
    obtain ⟨rfl, rfl⟩ := h
    exact fun g hg => by cases hg
  · rename_i g t xs
    split at h
    · simp only [Option.some.injEq, Prod.mk.injEq] at h
      obtain ⟨rfl, rfl⟩ := h
      exact fun g hg => by cases hg
    · rename_i hvar
      simp only [Option.some.injEq, Prod.mk.injEq] at h
      obtain ⟨rfl, rfl⟩ := h
      cases hv with
      | own _ _ _ _ hh h1 => exact fun g' hg' => by simp at hg'; subst hg'; exact .inl ⟨_, _, _, hh⟩
      | own0 _ _ hq => exact absurd hq hvar
  · rename_i g c
    split at h
    · rename_i ds hf
      simp only [Option.some.injEq, Prod.mk.injEq] at h
      obtain ⟨rfl, rfl⟩ := h
      cases hv with
      | ptr _ _ _ b hh => exact fun g' hg' => by simp at hg'; subst hg'; exact .inr (.inl ⟨_, _, _, hh, hf⟩)
    · cases h
  · rename_i g kk x
    simp only [Option.some.injEq, Prod.mk.injEq] at h
    obtain ⟨rfl, rfl⟩ := h
    cases hv with
    | obj _ _ _ F _ hh h1 => exact fun g' hg' => by simp at hg'; subst hg'; exact .inr (.inr ⟨_, _, _, _, hh⟩)
  · cases h

theorem lend_sound {T : List Tag} {N : List (Tag × TypeId)} {Φc : Nat → Prop} (hΦ : ∀ b, Φ b → Φc b) (hTv : ∀ g, g ∈ T → g.isVar = false) {l x : LV} {T1 : List Tag} {v : Value} (h : l.lend = some (x, T1)) (hv : RL S.C w Φ H v l) (hi : HInv S.C w Φ H) (hT : ∀ g, g ∈ T1 → g ∈ T)
    (hN : ∀ p, p ∈ nilL x → lookN N p.1 = some p.2) : RL S.C w Φc (callH H T N) v x := by
  unfold LV.lend at h
  split at h
  · simp only [Option.some.injEq, Prod.mk.injEq] at h
    obtain ⟨rfl, rfl⟩ := h
    exact .d _ _ (hv.flat.keep hΦ (fun _ _ => rfl))
  · rename_i g t xs
    split at h
    · rename_i hvar
      simp only [Option.some.injEq, Prod.mk.injEq] at h
      obtain ⟨rfl, rfl⟩ := h
      have hgT : g ∉ T := fun hg => by rw [hTv g hg] at hvar; cases hvar
      cases hv with
      | own _ _ _ _ hh h1 => rw [hi.novar g hvar] at hh; cases hh
      | own0 _ _ hq =>
        cases g with
        | var j =>
          have := hN (.var j, t) (by simp [nilL])
          exact .own _ t [] _ (by simp [callH, hgT, Tag.isVar, this]) rfl
        | _ => cases hvar
    · rename_i hvar
      simp only [Option.some.injEq, Prod.mk.injEq] at h
      obtain ⟨rfl, rfl⟩ := h
      have hg : g ∈ T := hT g (by simp)
      cases hv with
      | own _ _ _ _ hh h1 => exact .own _ t xs v (by rw [callH_par hg, hh]) h1
      | own0 _ _ hq => exact absurd hq hvar
  · rename_i g c
    split at h
    · rename_i ds hf
      simp only [Option.some.injEq, Prod.mk.injEq] at h
      obtain ⟨rfl, rfl⟩ := h
      have hg : g ∈ T := hT g (by simp)
      cases hv with
      | ptr _ _ _ b hh => exact .ptr _ 0 c b (by rw [callH_par hg, hh])
    · cases h
  · rename_i g kk x
    simp only [Option.some.injEq, Prod.mk.injEq] at h
    obtain ⟨rfl, rfl⟩ := h
    have hg : g ∈ T := hT g (by simp)
    cases hv with
    | obj _ _ _ F _ hh h1 => exact .obj _ kk x F v (by rw [callH_par hg, hh]) h1
  · cases h

theorem lends_sound (hi : HInv S.C w Φ H) {T : List Tag} {N : List (Tag × TypeId)} {Φc : Nat → Prop} (hΦ : ∀ b, Φ b → Φc b) (hTv : ∀ g, g ∈ T → g.isVar = false) : ∀ (ls xs : List LV) (T1 : List Tag), LV.lends ls = some (xs, T1) → (∀ g, g ∈ T1 → g ∈ T) → (∀ p, p ∈ nilLs xs → lookN N p.1 = some p.2) →
    xs.length = ls.length ∧ ∀ (j : Nat) l v, ls[j]? = some l → RL S.C w Φ H v l → ∃ x, xs[j]? = some x ∧ RL S.C w Φc (callH H T N) v x
  | [], xs, T1, h, hT, hN => by
    simp only [LV.lends, Option.some.injEq, Prod.mk.injEq] at h
    obtain ⟨rfl, rfl⟩ := h
    exact ⟨rfl, fun j l v h1 => by simp at h1⟩
  | l :: r, xs, T1, h, hT, hN => by
    simp only [LV.lends] at h
    split at h
    · rename_i x T2 xs2 T3 h1 h2
      simp only [Option.some.injEq, Prod.mk.injEq] at h
      obtain ⟨rfl, rfl⟩ := h
      obtain ⟨e1, e2⟩ := lends_sound hi hΦ hTv r xs2 T3 h2 (fun g hg => hT g (by simp [hg])) (fun p hp => hN p (by simp [nilLs, hp]))
      refine ⟨by simp [e1], fun j l' v g1 hv => ?_⟩
      cases j with
      | zero => simp at g1; subst g1; exact ⟨x, by simp, lend_sound hΦ hTv h1 hv hi (fun g hg => hT g (by simp [hg])) (fun p hp => hN p (by simp [nilLs, hp]))⟩
      | succ j => simpa using e2 j l' v (by simpa using g1) hv
    · cases h

theorem lends_names (hi : HInv S.C w Φ H) {ls xs : List LV} {T1 : List Tag} (h : LV.lends ls = some (xs, T1)) {cs : List Value} (hn : cs.length = ls.length) (hl : ∀ (j : Nat) l v, ls[j]? = some l → cs[j]? = some v → RL S.C w Φ H v l) : ∀ g, g ∈ T1 → lends H g := by
  induction ls generalizing xs T1 cs with
  | nil =>
    simp only [LV.lends, Option.some.injEq, Prod.mk.injEq] at h
    obtain ⟨rfl, rfl⟩ := h
    intro g hg; cases hg
  | cons l r ih =>
    simp only [LV.lends] at h
    split at h
    · rename_i x T2 xs2 T3 h1 h2
      simp only [Option.some.injEq, Prod.mk.injEq] at h
      obtain ⟨rfl, rfl⟩ := h
      cases cs with
      | nil => simp at hn
      | cons c cs =>
        intro g hg
        rcases List.mem_append.1 hg with hg | hg
        · exact lend_name hi h1 (hl 0 l c (by simp) (by simp)) g hg
        · exact ih (cs := cs) h2 (by simpa using hn) (fun j l v k1 k2 => hl (j + 1) l v (by simpa using k1) (by simpa using k2)) g hg
    · cases h

theorem alend_name (hi : HInv S.C w Φ H) {x y : AV} {T1 : List Tag} {v : Value} (h : x.lend = some (y, T1)) (hv : RA S.C w Φ H v x) : ∀ g, g ∈ T1 → lends H g := by
  unfold AV.lend at h
  split at h
  · split at h
    · rename_i x' T' hl
      simp only [Option.some.injEq, Prod.mk.injEq] at h
      obtain ⟨rfl, rfl⟩ := h
      cases hv with
      | any v => simp [LV.lend] at hl
      | one _ _ hv => exact lend_name hi hl hv
    · cases h
  · split at h
    · rename_i xs T' hl
      simp only [Option.some.injEq, Prod.mk.injEq] at h
      obtain ⟨rfl, rfl⟩ := h
      cases hv with
      | agg _ vs hn hv => exact lends_names hi (cs := vs.toList) hl (by simpa using hn) (fun j l v k1 k2 => hv j v l (by simpa using k2) k1)
    · cases h
  · cases h

theorem alend_sound (hi : HInv S.C w Φ H) {T : List Tag} {N : List (Tag × TypeId)} {Φc : Nat → Prop} (hΦ : ∀ b, Φ b → Φc b) (hTv : ∀ g, g ∈ T → g.isVar = false) {x y : AV} {T1 : List Tag} {v : Value} (h : x.lend = some (y, T1)) (hv : RA S.C w Φ H v x) (hT : ∀ g, g ∈ T1 → g ∈ T)
    (hN : ∀ p, p ∈ nilA y → lookN N p.1 = some p.2) : RA S.C w Φc (callH H T N) v y := by
  unfold AV.lend at h
  split at h
  · rename_i l
    split at h
    · rename_i x' T' hl
      simp only [Option.some.injEq, Prod.mk.injEq] at h
      obtain ⟨rfl, rfl⟩ := h
      cases hv with
      | any v => simp [LV.lend] at hl
      | one _ _ hv => exact .one _ _ (lend_sound hΦ hTv hl hv hi hT hN)
    · cases h
  · rename_i ls
    split at h
    · rename_i xs T' hl
      simp only [Option.some.injEq, Prod.mk.injEq] at h
      obtain ⟨rfl, rfl⟩ := h
      cases hv with
      | agg _ vs hn hv =>
        obtain ⟨e1, e2⟩ := lends_sound hi hΦ hTv ls xs T' hl hT hN
        refine .agg xs vs (by omega) (fun i v l h1 h2 => ?_)
        have hlt : i < ls.length := by rw [← e1]; exact (List.getElem?_eq_some_iff.1 h2).1
        obtain ⟨x, hx, hr⟩ := e2 i ls[i] v (by simp [hlt]) (hv i v _ h1 (by simp [hlt]))
        rw [h2] at hx
        cases hx
        exact hr
    · cases h
  · cases h

theorem asnap_sound (hi : HInv S.C w Φ H) {H' : Tag → TI} {Φc : Nat → Prop} (hΦ : ∀ b, Φ b → Φc b) {x y : AV} {L1 : List Tag} {v : Value} (h : x.snap S.C.P = some (y, L1)) (hv : RA S.C w Φ H v x) (hL : ∀ g, g ∈ L1 → ∀ b, b ∈ (H g).foot → Φc b) :
    RA S.C w Φc H' v y := by
  unfold AV.snap at h
  split at h
  · rename_i l
    split at h
    · rename_i x' T' hl
      simp only [Option.some.injEq, Prod.mk.injEq] at h
      obtain ⟨rfl, rfl⟩ := h
      cases hv with
      | any v => simp [LV.snap] at hl
      | one _ _ hv => exact .one _ _ (.d _ _ (snap_reads hi hΦ hl hv hL))
    · cases h
  · rename_i ls
    split at h
    · rename_i xs T' hl
      simp only [Option.some.injEq, Prod.mk.injEq] at h
      obtain ⟨rfl, rfl⟩ := h
      cases hv with
      | agg _ vs hn hv =>
        obtain ⟨e1, e2⟩ := snaps_reads hi hΦ ls xs T' hl hL
        refine .agg _ vs (by simp; omega) (fun i v l h1 h2 => ?_)
        rw [List.getElem?_map, Option.map_eq_some_iff] at h2
        obtain ⟨x, hx, rfl⟩ := h2
        have hlt : i < ls.length := by rw [← e1]; exact (List.getElem?_eq_some_iff.1 hx).1
        exact .d _ _ (e2 i ls[i] x v (by simp [hlt]) hx (hv i v _ h1 (by simp [hlt])))
    · cases h
  · cases h

theorem fillL_sound {rw_ : Bool} {j c : Nat} {l : LV} {v : Value} (hi : HInv S.C w Φ H) (h : RL S.C w Φ H v l) : RL S.C w Φ H v (fillL rw_ j c l) := by
  unfold fillL
  split
  · have := h.flat
    cases this
    cases rw_
    · exact .d _ _ (.nil' _)
    · exact .own0 _ _ rfl
  · cases h with
    | own _ _ _ _ hh _ => rw [hi.novar _ rfl] at hh; cases hh
    | own0 _ _ _ => exact .own0 _ _ rfl
  · exact h
theorem fillLs_sound {rw_ : Bool} (hi : HInv S.C w Φ H) : ∀ (j : Nat) (cs : List Nat) (ls : List LV), (fillLs rw_ j cs ls).length = ls.length ∧ ∀ (i : Nat) m v, (fillLs rw_ j cs ls)[i]? = some m → (∀ l, ls[i]? = some l → RL S.C w Φ H v l) → RL S.C w Φ H v m
  | j, cs, [] => by
    have : fillLs rw_ j cs [] = [] := by cases cs <;> rfl
    rw [this]
    exact ⟨rfl, fun i m v h => by simp at h⟩
  | j, [], l :: ls => by
    obtain ⟨h1, h2⟩ := fillLs_sound (rw_ := rw_) hi (j + 1) [] ls
    refine ⟨by simp [fillLs, h1], fun i m v h h3 => ?_⟩
    cases i with
    | zero => simp [fillLs] at h; subst h; exact fillL_sound hi (h3 l (by simp))
    | succ i => exact h2 i m v (by simpa [fillLs] using h) (fun l' hl => h3 l' (by simpa using hl))
  | j, c :: cs, l :: ls => by
    obtain ⟨h1, h2⟩ := fillLs_sound (rw_ := rw_) hi (j + 1) cs ls
    refine ⟨by simp [fillLs, h1], fun i m v h h3 => ?_⟩
    cases i with
    | zero => simp [fillLs] at h; subst h; exact fillL_sound hi (h3 l (by simp))
    | succ i => exact h2 i m v (by simpa [fillLs] using h) (fun l' hl => h3 l' (by simpa using hl))
theorem fill_sound (hi : HInv S.C w Φ H) {rw_ : Bool} {j : Nat} {ns : List Nat} {a : AV} {v : Value} (h : RA S.C w Φ H v a) : RA S.C w Φ H v (a.fill rw_ j ns) := by
  cases h with
  | one v l hl => simp only [AV.fill]; exact .one _ _ (fillL_sound hi hl)
  | any v => simp only [AV.fill]; exact .any v
  | agg ls vs hn hh =>
    simp only [AV.fill]
    obtain ⟨h1, h2⟩ := fillLs_sound (rw_ := rw_) hi j ns ls
    exact .agg _ vs (by omega) (fun i v m g1 g2 => h2 i m v g2 (fun l hl => hh i v l g1 hl))
  | tup as vs hn hh => exact .tup as vs hn hh

theorem pass_names (hi : HInv S.C w Φ H) : ∀ (args : List AV) (j : Nat) (rw_ : List PM) (as : List AV) (T1 L1 : List Tag) (vs : List Value), pass S.C.P j rw_ args = some (as, T1, L1) → vs.length = args.length → (∀ (i : Nat) v x, vs[i]? = some v → args[i]? = some x → RA S.C w Φ H v x) → ∀ g, g ∈ T1 → lends H g
  | [], j, rw_, as, T1, L1, vs, h, hn, hv => by
    have h : some (([] : List AV), ([] : List Tag), ([] : List Tag)) = some (as, T1, L1) := by cases rw_ <;> simpa [pass] using h
    simp only [Option.some.injEq, Prod.mk.injEq] at h
    obtain ⟨rfl, rfl, rfl⟩ := h
    exact fun g hg => by cases hg
  | x :: xs, j, rw_, as, T1, L1, [], h, hn, hv => by simp at hn
  | x :: xs, j, rw_, as, T1, L1, v :: vs, h, hn, hv => by
    have hn' : vs.length = xs.length := by simpa using hn
    have hv0 := hv 0 v x (by simp) (by simp)
    have hv' : ∀ (i : Nat) v x, vs[i]? = some v → xs[i]? = some x → RA S.C w Φ H v x := fun i v x h1 h2 => hv (i + 1) v x (by simpa using h1) (by simpa using h2)
    match rw_ with
    | ⟨true, ns⟩ :: rw' =>
      simp only [pass] at h
      split at h
      · rename_i h1 h2
        simp only [Option.some.injEq, Prod.mk.injEq] at h
        obtain ⟨rfl, rfl, rfl⟩ := h
        intro g hg
        rcases List.mem_append.1 hg with hg | hg
        · exact alend_name hi h1 (fill_sound hi hv0) g hg
        · exact pass_names hi xs _ rw' _ _ _ vs h2 hn' hv' g hg
      · cases h
    | ⟨false, ns⟩ :: rw' =>
      simp only [pass] at h
      split at h
      · rename_i h1 h2
        simp only [Option.some.injEq, Prod.mk.injEq] at h
        obtain ⟨rfl, rfl, rfl⟩ := h
        exact pass_names hi xs _ rw' _ _ _ vs h2 hn' hv'
      · cases h
    | [] =>
      simp only [pass] at h
      split at h
      · rename_i h1 h2
        simp only [Option.some.injEq, Prod.mk.injEq] at h
        obtain ⟨rfl, rfl, rfl⟩ := h
        exact pass_names hi xs _ [] _ _ _ vs h2 hn' hv'
      · cases h

theorem pass_sound (hi : HInv S.C w Φ H) {T L : List Tag} {N : List (Tag × TypeId)} {Φc : Nat → Prop} (hΦ : ∀ b, Φ b → Φc b) (hTv : ∀ g, g ∈ T → g.isVar = false) (hLc : ∀ g, g ∈ L → ∀ b, b ∈ (H g).foot → Φc b) : ∀ (args : List AV) (j : Nat) (rw_ : List PM) (as : List AV) (T1 L1 : List Tag) (vs : List Value), pass S.C.P j rw_ args = some (as, T1, L1) →
    (∀ g, g ∈ T1 → g ∈ T) → (∀ g, g ∈ L1 → g ∈ L) → (∀ p, p ∈ nilAs as → lookN N p.1 = some p.2) → vs.length = args.length → (∀ (i : Nat) v x, vs[i]? = some v → args[i]? = some x → RA S.C w Φ H v x) →
    as.length = args.length ∧ ∀ (i : Nat) v x, vs[i]? = some v → as[i]? = some x → RA S.C w Φc (callH H T N) v x
  | [], j, rw_, as, T1, L1, vs, h, hT, hL, hN, hn, hv => by
    have h : some (([] : List AV), ([] : List Tag), ([] : List Tag)) = some (as, T1, L1) := by cases rw_ <;> simpa [pass] using h
    simp only [Option.some.injEq, Prod.mk.injEq] at h
    obtain ⟨rfl, rfl, rfl⟩ := h
    exact ⟨rfl, fun i v x _ h2 => by simp at h2⟩
  | x :: xs, j, rw_, as, T1, L1, [], h, hT, hL, hN, hn, hv => by simp at hn
  | x :: xs, j, rw_, as, T1, L1, v :: vs, h, hT, hL, hN, hn, hv => by
    have hn' : vs.length = xs.length := by simpa using hn
    have hv0 := hv 0 v x (by simp) (by simp)
    have hv' : ∀ (i : Nat) v x, vs[i]? = some v → xs[i]? = some x → RA S.C w Φ H v x := fun i v x h1 h2 => hv (i + 1) v x (by simpa using h1) (by simpa using h2)
    have glue : ∀ (y : AV) (ys : List AV), RA S.C w Φc (callH H T N) v y → (∀ (i : Nat) v x, vs[i]? = some v → ys[i]? = some x → RA S.C w Φc (callH H T N) v x) → ∀ (i : Nat) v' x', (v :: vs)[i]? = some v' → (y :: ys)[i]? = some x' → RA S.C w Φc (callH H T N) v' x' := by
      intro y ys hy hys i v' x' h1 h2
      cases i with
      | zero => simp at h1 h2; subst h1; subst h2; exact hy
      | succ i => exact hys i v' x' (by simpa using h1) (by simpa using h2)
    have snapCase : ∀ (z : AV) (j' : Nat) (rw' : List PM) (y : AV) (L2 : List Tag) (ys : List AV) (T3 L3 : List Tag), RA S.C w Φ H v z → z.snap S.C.P = some (y, L2) → pass S.C.P j' rw' xs = some (ys, T3, L3) → some (y :: ys, T3, L2 ++ L3) = some (as, T1, L1) →
        as.length = (x :: xs).length ∧ ∀ (i : Nat) v' x', (v :: vs)[i]? = some v' → as[i]? = some x' → RA S.C w Φc (callH H T N) v' x' := by
      intro z j' rw' y L2 ys T3 L3 hz h1 h2 h
      simp only [Option.some.injEq, Prod.mk.injEq] at h
      obtain ⟨rfl, rfl, rfl⟩ := h
      obtain ⟨e1, e2⟩ := pass_sound hi hΦ hTv hLc xs j' rw' ys T3 L3 vs h2 hT (fun g hg => hL g (by simp [hg])) (fun p hp => hN p (by simp [nilAs, hp])) hn' hv'
      exact ⟨by simp [e1], glue _ _ (asnap_sound hi hΦ h1 hz (fun g hg => hLc g (hL g (by simp [hg])))) e2⟩
    match rw_ with
    | ⟨true, ns⟩ :: rw' =>
      simp only [pass] at h
      split at h
      · rename_i y T2 ys T3 L3 h1 h2
        simp only [Option.some.injEq, Prod.mk.injEq] at h
        obtain ⟨rfl, rfl, rfl⟩ := h
        obtain ⟨e1, e2⟩ := pass_sound hi hΦ hTv hLc xs _ rw' ys T3 L3 vs h2 (fun g hg => hT g (by simp [hg])) hL (fun p hp => hN p (by simp [nilAs, hp])) hn' hv'
        have k1 := alend_sound hi (T := T) (N := N) hΦ hTv h1 (fill_sound hi hv0) (fun g hg => hT g (by simp [hg])) (fun p hp => hN p (by simp [nilAs, hp]))
        exact ⟨by simp [e1], glue _ _ k1 e2⟩
      · cases h
    | ⟨false, ns⟩ :: rw' =>
      simp only [pass] at h
      split at h
      · rename_i h1 h2
        exact snapCase _ _ _ _ _ _ _ _ (fill_sound hi hv0) h1 h2 h
      · cases h
    | [] =>
      simp only [pass] at h
      split at h
      · rename_i h1 h2
        exact snapCase _ _ _ _ _ _ _ _ hv0 h1 h2 h
      · cases h

/-- What the callee stands on. -/
theorem call_inv (hi : HInv S.C w Φ H) {T L : List Tag} {N : List (Tag × TypeId)} (hTL : ∀ g, g ∈ T → g ∉ L) (hT : ∀ g, g ∈ T → lends H g) : HInv S.C w (frzΦ Φ H (among L)) (callH H T N) where
  disj := fun g g' b h1 h2 => by
    obtain ⟨x, rfl, _, h3⟩ := callH_foot h1
    obtain ⟨y, rfl, _, h4⟩ := callH_foot h2
    rw [hi.disj x y b h3 h4]
  nophi := fun g b h1 hp => by
    obtain ⟨x, rfl, hx, h3⟩ := callH_foot h1
    rcases hp with hp | ⟨g', hg', hb⟩
    · exact hi.nophi x b h3 hp
    · have := hi.disj x g' b h3 hb
      subst this
      exact hTL _ hx (among_mem.1 hg')
  lt := fun g b h1 => by
    obtain ⟨x, rfl, _, h3⟩ := callH_foot h1
    exact hi.lt x b h3
  phi := fun b hb => by
    rcases hb with hb | ⟨g, _, hb⟩
    · exact hi.phi b hb
    · exact (hi.lt g b hb).2
  ok := fun g => by
    by_cases hg : callH H T N g = .none
    · rw [hg]; exact .none
    · obtain ⟨x, rfl, ⟨hx, h3⟩ | ⟨_, _, t, h3⟩⟩ := callH_some hg
      · rw [h3]
        have hok := hi.ok x
        rcases hT x hx with ⟨v, t, xs, hh⟩ | ⟨b, c, ds, hh, hf⟩ | ⟨F, k, v, y, hh⟩
        · rw [hh] at hok ⊢
          have h' := hok.keep (Φ' := frzΦ Φ H (among L)) (fun b hb => .inl hb) (fun _ _ => rfl) (fun _ _ => rfl)
          cases h' with
          | arr _ _ _ vals ho he hr => exact .arr v t xs vals ho he hr
        · rw [hh] at hok ⊢
          cases hok with
          | box _ _ cur ty hb hn hr =>
            obtain ⟨f1, f2⟩ := LV.flats?_get hf
            refine .box b c cur ty hb hn (fun j l v h1 h2 => ?_)
            have h4 := f2 j
            rw [h1] at h4
            have h5 := h4.symm
            rw [Option.map_eq_some_iff] at h5
            obtain ⟨z, hz, rfl⟩ := h5
            exact .d _ _ ((hr j _ v h1 h2).flat.keep (fun b hb => .inl hb) (fun _ _ => rfl))
        · rw [hh] at hok ⊢
          cases hok with
          | ob _ _ _ _ h => exact .ob F k v y (S.C.stableK k w w Φ _ F v y (fun b hb => .inl hb) (fun _ _ => rfl) h)
      · rw [h3]
        exact .arr _ t [] [] ⟨by simp, .inl ⟨rfl, rfl⟩⟩ (by simp) (by simp)
  novar := fun g hv => by
    by_cases hg : callH H T N g = .none
    · exact hg
    · obtain ⟨x, rfl, _⟩ := callH_some hg
      cases hv

theorem lookN_mem : ∀ {N : List (Tag × TypeId)}, (N.map Prod.fst).Nodup → ∀ p, p ∈ N → lookN N p.1 = some p.2
  | [], _, p, h => by cases h
  | (g, t) :: r, hn, p, h => by
    simp only [List.map_cons, List.nodup_cons] at hn
    simp only [lookN]
    rcases List.mem_cons.1 h with rfl | h
    · simp
    · have hne : g ≠ p.1 := fun e => hn.1 (by rw [e]; exact List.mem_map_of_mem h)
      rw [if_neg hne]
      exact lookN_mem hn.2 p h

theorem uget_mem : ∀ {us : List (Tag × UI)} {g : Tag} {u : UI}, uget us g = some u → (g, u) ∈ us
  | [], g, u, h => by simp [uget] at h
  | (g', u') :: r, g, u, h => by
    simp only [uget] at h
    split at h
    · rename_i e1
      simp only [Option.some.injEq] at h
      rw [e1, h]
      exact List.mem_cons_self
    · exact List.mem_cons_of_mem _ (uget_mem h)

/-- What has become of a name that was lent. -/
def Turned (H H' : Tag → TI) (g : Tag) (u : UI) : Prop := (∃ v t xs t' xs', u = .arr t' xs' ∧ H g = .arr v t xs ∧ H' (.par g) = .arr v t' xs') ∨ (∃ b c c' ds, u = .box c' ∧ H g = .box b c ∧ H' (.par g) = .box b c' ∧ LV.flats? c' = some ds)

theorem RL.ptr_inv {v : Value} {g : Tag} {off : Nat} {c : List LV} (h : RL S.C w Φ H v (.ptr g off c)) : ∃ b, v = .pointer (some ⟨b, off, none⟩) ∧ H g = .box b c := by
  cases h with
  | ptr _ _ _ b hh => exact ⟨b, rfl, hh⟩

theorem outL_sound {w' : World} {Φ' : Nat → Prop} {H' : Tag → TI} {v : Value} {l m : LV} (h1 : RL S.C w Φ H v l) (h2 : RL S.C w' Φ' H' v m) : ∀ g u, (g, u) ∈ outL l m → g.isVar = false → Turned H H' g u := by
  intro g u hm hv
  unfold outL at hm
  split at hm
  · rename_i g1 t xs h t' xs'
    split at hm
    · rename_i e1
      subst e1
      simp at hm
      obtain ⟨rfl, rfl⟩ := hm
      have hv2 : (Tag.par g).isVar = false := rfl
      cases h1 with
      | own _ _ _ _ hh _ =>
        cases h2 with
        | own _ _ _ _ hh' _ => exact .inl ⟨_, _, _, _, _, rfl, hh, hh'⟩
        | own0 _ _ hq => rw [hv2] at hq; cases hq
      | own0 _ _ hq => rw [hv] at hq; cases hq
    · cases hm
  · rename_i g1 c h c'
    split at hm
    · rename_i e1
      subst e1
      split at hm
      · rename_i ds hf
        simp at hm
        obtain ⟨rfl, rfl⟩ := hm
        obtain ⟨b, rfl, hh⟩ := h1.ptr_inv
        obtain ⟨b', hb, hh'⟩ := h2.ptr_inv
        cases hb
        exact .inr ⟨_, _, _, _, rfl, hh, hh', hf⟩
      · cases hm
    · cases hm
  · cases hm

theorem outLs_sound {w' : World} {Φ' : Nat → Prop} {H' : Tag → TI} : ∀ (ls ms : List LV) (cs : List Value), (∀ (j : Nat) l v, ls[j]? = some l → cs[j]? = some v → RL S.C w Φ H v l) → (∀ (j : Nat) l v, ms[j]? = some l → cs[j]? = some v → RL S.C w' Φ' H' v l) →
    cs.length = ls.length → ∀ g u, (g, u) ∈ outLs ls ms → g.isVar = false → Turned H H' g u
  | [], ms, cs, h1, h2, hn => by intro g u hm; simp [outLs] at hm
  | l :: ls, [], cs, h1, h2, hn => by intro g u hm; simp [outLs] at hm
  | l :: ls, m :: ms, [], h1, h2, hn => by simp at hn
  | l :: ls, m :: ms, c :: cs, h1, h2, hn => by
    intro g u hm hv
    simp only [outLs, List.mem_append] at hm
    rcases hm with hm | hm
    · exact outL_sound (h1 0 l c (by simp) (by simp)) (h2 0 m c (by simp) (by simp)) g u hm hv
    · exact outLs_sound ls ms cs (fun j l v k1 k2 => h1 (j + 1) l v (by simpa using k1) (by simpa using k2)) (fun j l v k1 k2 => h2 (j + 1) l v (by simpa using k1) (by simpa using k2)) (by simpa using hn) g u hm hv

theorem outA_sound {w' : World} {Φ' : Nat → Prop} {H' : Tag → TI} {v : Value} {x y : AV} (h1 : RA S.C w Φ H v x) (h2 : RA S.C w' Φ' H' v y) : ∀ g u, (g, u) ∈ outA x y → g.isVar = false → Turned H H' g u := by
  intro g u hm hv
  unfold outA at hm
  split at hm
  · rename_i l m
    cases h1 with
    | any _ => simp [outL] at hm
    | one _ _ h1 =>
      cases h2 with
      | any _ =>
        unfold outL at hm
        split at hm
        · rename_i heq; cases heq
        · rename_i heq; cases heq
        · cases hm
      | one _ _ h2 => exact outL_sound h1 h2 g u hm hv
  · rename_i ls ms
    cases h1 with
    | agg _ vs hn h1 =>
      cases h2 with
      | agg _ _ hn2 h2 => exact outLs_sound ls ms vs.toList (fun j l v k1 k2 => h1 j v l (by simpa using k2) k1) (fun j l v k1 k2 => h2 j v l (by simpa using k2) k1) (by simpa using hn) g u hm hv
  · cases hm

theorem outs_sound {w' : World} {Φ' : Nat → Prop} {H' : Tag → TI} : ∀ (xs ys : List AV) (cs : List Value), (∀ (j : Nat) v l, cs[j]? = some v → xs[j]? = some l → RA S.C w Φ H v l) → (∀ (j : Nat) v l, cs[j]? = some v → ys[j]? = some l → RA S.C w' Φ' H' v l) →
    cs.length = xs.length → ∀ g u, (g, u) ∈ outs xs ys → g.isVar = false → Turned H H' g u
  | [], ms, cs, h1, h2, hn => by intro g u hm; simp [outs] at hm
  | l :: ls, [], cs, h1, h2, hn => by intro g u hm; simp [outs] at hm
  | l :: ls, m :: ms, [], h1, h2, hn => by simp at hn
  | l :: ls, m :: ms, c :: cs, h1, h2, hn => by
    intro g u hm hv
    simp only [outs, List.mem_append] at hm
    rcases hm with hm | hm
    · exact outA_sound (h1 0 c l (by simp) (by simp)) (h2 0 c m (by simp) (by simp)) g u hm hv
    · exact outs_sound ls ms cs (fun j v l k1 k2 => h1 (j + 1) v l (by simpa using k1) (by simpa using k2)) (fun j v l k1 k2 => h2 (j + 1) v l (by simpa using k1) (by simpa using k2)) (by simpa using hn) g u hm hv
end
end Go.VS
namespace Go.VS
open Go Go.RowKit
set_option linter.unusedVariables false
set_option linter.unusedSimpArgs false

/-- A call of it goes into its body. -/
def Enters (P : Program) (f : FuncId) : Prop := ∃ fn, P.funcs[f]? = some fn ∧ (fn.name == "runtime.NumGoroutine") = false ∧ fn.body.isNone = false
/-- The functions that are told of keep their contracts. -/
def Good (S : Sys) : Prop := ∀ f F, S.X f = some F → Enters S.C.P f ∧ ∀ as R, F.post as = some R → Okp S.C f as R

theorem RL.scalar {C : Ctx} {w w' : World} {Φ Φ' : Nat → Prop} {H H' : Tag → TI} {v : Value} {l : LV} (h : RL C w Φ H v l) (hs : l.scalar = true) : RL C w' Φ' H' v l := by
  cases h with
  | d v x h =>
    refine .d v x ?_
    cases h <;> first | exact .int _ _ | exact .bool _ | exact .str _ | exact .err0 | exact .err1 _ _ | cases hs
  | _ => cases hs
theorem LV.scalars_get : ∀ {ls : List LV} {i : Nat} {l : LV}, LV.scalars ls = true → ls[i]? = some l → l.scalar = true
  | [], i, l, _, h => by simp at h
  | x :: r, i, l, hs, h => by
    simp only [LV.scalars, Bool.and_eq_true] at hs
    cases i with
    | zero => simp at h; subst h; exact hs.1
    | succ i => exact LV.scalars_get hs.2 (by simpa using h)
theorem AV.scalars_get : ∀ {ls : List AV} {i : Nat} {l : AV}, AV.scalars ls = true → ls[i]? = some l → l.scalar1 = true
  | [], i, l, _, h => by simp at h
  | x :: r, i, l, hs, h => by
    simp only [AV.scalars, Bool.and_eq_true] at hs
    cases i with
    | zero => simp at h; subst h; exact hs.1
    | succ i => exact AV.scalars_get hs.2 (by simpa using h)
theorem RA.scalar1 {C : Ctx} {w w' : World} {Φ Φ' : Nat → Prop} {H H' : Tag → TI} {v : Value} {r : AV} (h : RA C w Φ H v r) (hs : r.scalar1 = true) : RA C w' Φ' H' v r := by
  cases h with
  | one v l h => exact .one v l (h.scalar hs)
  | any v => cases hs
  | agg ls vs hn h => exact .agg ls vs hn (fun i v l h1 h2 => (h i v l h1 h2).scalar (LV.scalars_get hs h2))
  | tup as vs hn h => cases hs
theorem RA.scalar {C : Ctx} {w w' : World} {Φ Φ' : Nat → Prop} {H H' : Tag → TI} {v : Value} {r : AV} (h : RA C w Φ H v r) (hs : r.scalar = true) : RA C w' Φ' H' v r := by
  cases h with
  | one v l h => exact (RA.one v l h).scalar1 hs
  | any v => cases hs
  | agg ls vs hn h => exact (RA.agg ls vs hn h).scalar1 hs
  | tup as vs hn h => exact .tup as vs hn (fun i v l h1 h2 => (h i v l h1 h2).scalar1 (AV.scalars_get hs h2))

mutual
theorem LV.up_id {φ : LV → LV} (hφ : ∀ l, φ l = l) : ∀ l : LV, l.up φ = l
  | .ptr g off c => by simp [LV.up, LV.ups_id hφ c, hφ]
  | .clo f caps => by simp [LV.up, LV.ups_id hφ caps]
  | .own g t xs => by simp [LV.up, hφ]
  | .eptr g t xs i off => by simp [LV.up, hφ]
  | .obj g k x => by simp [LV.up, hφ]
  | .d x => by simp [LV.up]
  | .top => by simp [LV.up]
  | .dptr c off => by simp [LV.up]
theorem LV.ups_id {φ : LV → LV} (hφ : ∀ l, φ l = l) : ∀ ls : List LV, LV.ups φ ls = ls
  | [] => rfl
  | l :: ls => by simp [LV.ups, LV.up_id hφ l, LV.ups_id hφ ls]
end
mutual
theorem AV.up_id {φ : LV → LV} (hφ : ∀ l, φ l = l) : ∀ l : AV, l.up φ = l
  | .one l => by simp [AV.up, LV.up_id hφ]
  | .agg ls => by simp [AV.up, LV.ups_id hφ]
  | .tup vs => by simp [AV.up, AV.ups_id hφ vs]
theorem AV.ups_id {φ : LV → LV} (hφ : ∀ l, φ l = l) : ∀ ls : List AV, AV.ups φ ls = ls
  | [] => rfl
  | l :: ls => by simp [AV.ups, AV.up_id hφ l, AV.ups_id hφ ls]
end
theorem Env.up_id {φ : LV → LV} (hφ : ∀ l, φ l = l) : ∀ σ : Env, σ.up φ = σ
  | [] => rfl
  | (k, v) :: r => by simp [Env.up, AV.up_id hφ v, Env.up_id hφ r]
theorem ufun_none {U : Tag → Option UI} (hU : ∀ g, U g = none) (l : LV) : ufun U l = l := by
  cases l <;> simp [ufun, hU]

section
variable {S : Sys} {e : Entry} {Φ : Nat → Prop} {H : Tag → TI} {σ : Env} {a : Act} {w : World} {k : Env → Prop}

theorem call_step (good : Good S) {draw : Bool} {dst : Option Tmp} {f : FuncId} {args : List AV} {vs : Array Value} (inv : Inv S e Φ H σ a w) (hf : ∀ d, dst = some d → Fresh H d) (hn : vs.size = args.length)
    (hv : ∀ (i : Nat) v x, vs[i]? = some v → args[i]? = some x → RA S.C w Φ H v x) (h : wCall S draw dst f args σ k) :
    Enters S.C.P f ∧ Calls S.C.P f vs w fun en w' => ∃ v Φ' H' σ', en = .returned v ∧ k σ' ∧ Inv S e Φ' H' σ' (a.put dst v) w' ∧ Pres dst H H' := by
  unfold wCall at h
  split at h
  · exact h.elim
  rename_i F hF
  split at h
  · exact h.elim
  rename_i as T L hp
  split at h
  · exact h.elim
  rename_i R hR
  obtain ⟨⟨hnd, hnn, hTL, _⟩, hk⟩ := h
  obtain ⟨hent, hok⟩ := good f F hF
  have e3 := pass_names inv.hi args 0 F.rw as T L vs.toList hp (by simpa using hn) (fun i v x h1 h2 => hv i v x (by simpa using h1) h2)
  have hTv : ∀ g, g ∈ T → g.isVar = false := fun g hg => by
    cases hq : g.isVar with
    | false => rfl
    | true => exact absurd (inv.hi.novar g hq) (e3 g hg).some
  obtain ⟨e1, e2⟩ := pass_sound (T := T) (L := L) (N := nilAs as) (Φc := frzΦ Φ H (among L)) inv.hi (fun b hb => .inl hb) hTv (fun g hg b hb => .inr ⟨g, among_mem.2 hg, hb⟩) args 0 F.rw as T L vs.toList hp (fun g hg => hg) (fun g hg => hg) (lookN_mem hnn) (by simpa using hn) (fun i v x h1 h2 => hv i v x (by simpa using h1) h2)
  refine ⟨hent, ?_⟩
  refine (hok as R hR w (frzΦ Φ H (among L)) (callH H T (nilAs as)) vs inv.G (call_inv inv.hi hTL e3) (by omega) (fun i v x h1 h2 => e2 i v x (by simpa using h1) h2)).mono ?_
  rintro en w' ⟨v, r, o, Φ', H', rfl, hr, hi', hG', hvr, hvo, fr⟩
  replace hk := hk r o hr
  have hos : ∀ g u, g ∈ T → uget (outs args o) g = some u → Turned H H' g u := fun g u hg hu =>
    outs_sound args o vs.toList (fun j v l h1 h2 => hv j v l (by simpa using h1) h2) (fun j v l h1 h2 => hvo j v l (by simpa using h1) h2) (by simpa using hn) g u (uget_mem hu)
      (by cases hq : g.isVar with
        | false => rfl
        | true => exact absurd (inv.hi.novar g hq) (e3 g hg).some)
  split at hk
  · -- a scalar comes back
    rename_i hc
    obtain ⟨rfl, hsc⟩ := hc
    have hblk : ∀ b, b < w.heap.size → w'.heap[b]? = w.heap[b]? := fun b hb => fr.block b hb (fun g hg => by obtain ⟨_, _, hx, _⟩ := callH_foot hg; cases hx)
    have inv' := inv.keep (w' := w') (Φ' := Φ) (fun _ hb => hb) (fun b hb => .inl hb) hblk fr.size fr.os fr.tape fr.output
    obtain ⟨σ', hσ, hi2⟩ := inv'.wPut hk (hvr.scalar (Φ' := Φ) (H' := H) hsc)
    exact ⟨v, Φ, H, σ', rfl, hσ, hi2, Pres.refl _ _⟩
  · split at hk
    · exact hk.elim
    rename_i d
    split at hk
    · rename_i hc
      obtain ⟨rfl, rfl⟩ := hc
      have hΦ : frzΦ Φ H (among []) = Φ := by
        funext b
        simp [frzΦ, among]
      rw [hΦ] at fr
      obtain ⟨H'', i2, r2, p2⟩ := inv.call (us := []) (hf d rfl) (fun g hg => by cases hg) hi' hG' fr (fun g u hg => by cases hg)
      rw [Env.up_id (ufun_none (fun g => by simp [VS.turn]))] at i2
      obtain ⟨σ', hσ, hi2⟩ := i2.wPut hk (r2 v r hvr)
      exact ⟨v, Φ', H'', σ', rfl, hσ, hi2, p2⟩
    · obtain ⟨_, hk⟩ := hk
      have inv1 := inv.frz (among L)
      have hsame : ∀ g, g ∈ T → frzH S.C.P H (among L) g = H g := by
        intro g hg
        have : among L g = false := by
          cases hq : among L g with
          | false => rfl
          | true => exact absurd (among_mem.1 hq) (hTL g hg)
        unfold frzH
        rw [this]
        rcases e3 g hg with ⟨v, t, xs, hh⟩ | ⟨b, c, ds, hh, hfl⟩ | ⟨F', k', v, y, hh⟩
        · rw [hh]; rfl
        · rw [hh]; simp [TI.up, LV.up_flats hfl]
        · rw [hh]; rfl
      have hcall : callH (frzH S.C.P H (among L)) T (nilAs as) = callH H T (nilAs as) := by
        funext g
        cases g with
        | par x =>
          simp only [callH]
          split
          · rename_i hx; exact hsame x hx
          · rfl
        | _ => rfl
      rw [← hcall] at fr
      obtain ⟨H'', i2, r2, p2⟩ := inv1.call (us := outs args o) (d := d) (fun τ hτ => frzH_pres (hf d rfl τ hτ)) (fun g hg => by rw [hsame g hg]; exact (e3 g hg).some) hi' hG' fr (fun g u hg hu => by
        have := hos g u hg hu
        unfold Turned at this
        rw [hsame g hg]
        exact this)
      obtain ⟨σ', hσ, hi2⟩ := i2.wPut hk (r2 v r hvr)
      exact ⟨v, Φ', H'', σ', rfl, hσ, hi2, fun d' τ hne h0 => p2 d' τ hne (frzH_pres h0)⟩

theorem enter_run {o : Oper} {c : Call} {x : Operand} {f : FuncId} {caps : Array Value} (ho : o.op = .call c) (hc : c.callee = .value x) (hx : a.eval x = .func (.func f) #[] caps) (hent : Enters S.C.P f) :
    (execOp a.eval o).run S.C.P w = .ok (.enter f (c.args.map a.eval ++ caps)) w := by
  obtain ⟨fn, h1, h2, h3⟩ := hent
  have hrun : (callFunc f (c.args.map a.eval ++ caps)).run S.C.P w = .ok (.enter f (c.args.map a.eval ++ caps)) w := by
    unfold callFunc
    simp only [Sem.run_bind, run_program, Result.andThen_ok, h1, h2, h3, Bool.false_eq_true, if_false, Sem.run_pure]
  unfold execOp
  simp only [ho, resolve, hc, hx, Deferred.ofValue, Sem.run_bind, Sem.run_pure, Result.andThen_ok, invoke, Array.empty_append]
  exact hrun

theorem caps_list {vs : Array Value} {caps : List LV} (hn : vs.size = caps.length) : vs.toList.length = caps.length := by simpa using hn

/-- The values that go into a call. -/
theorem call_args (inv : Inv S e Φ H σ a w) (args : Array Operand) (caps : List AV) (cvs : Array Value) (hn : cvs.size = caps.length) (hc : ∀ (i : Nat) v x, cvs[i]? = some v → caps[i]? = some x → RA S.C w Φ H v x) :
    (args.map a.eval ++ cvs).size = (args.toList.map (σ.eval S.n) ++ caps).length ∧ ∀ (i : Nat) v x, (args.map a.eval ++ cvs)[i]? = some v → (args.toList.map (σ.eval S.n) ++ caps)[i]? = some x → RA S.C w Φ H v x := by
  refine ⟨by simp [hn], fun i v x h1 h2 => ?_⟩
  rw [Array.getElem?_append] at h1
  rw [List.getElem?_append] at h2
  simp only [Array.size_map, List.length_map, Array.length_toList] at h1 h2
  split at h1
  · rename_i hlt
    rw [if_pos hlt, List.getElem?_map, Option.map_eq_some_iff] at h2
    rw [Array.getElem?_map, Option.map_eq_some_iff] at h1
    obtain ⟨x1, g1, rfl⟩ := h1
    obtain ⟨x2, g2, rfl⟩ := h2
    have : x1 = x2 := by simpa [g1] using g2
    subst this
    exact inv.eval x1
  · rename_i hlt
    rw [if_neg hlt] at h2
    exact hc _ v x h1 h2

/-- Every operation. -/
theorem oper_sound (good : Good S) {draw mutOk : Bool} {o : Oper} (inv : Inv S e Φ H σ a w) (hf : ∀ d, o.dst = some d → creates o.op = true → Fresh H d) (h : wOp S draw mutOk o σ k)
    {next : Act → World → Prop} {Q : Exit → Act → World → Prop} (hk : ∀ Φ' H' σ' a' w', k σ' → Inv S e Φ' H' σ' a' w' → Pres o.dst H H' → next a' w') : o.wp S.C.P a w next Q := by
  cases hcall : isCall o.op with
  | false =>
    obtain ⟨v, w', Φ', H', σ', hr, hσ, hi, hp⟩ := op_step hcall hf inv h
    unfold Oper.wp
    rcases hr with hr | ⟨hr, rfl⟩
    · rw [hr, Oper.upon_value]; exact hk _ _ _ _ _ hσ hi hp
    · rw [hr, Oper.upon_skip]; exact hk _ _ _ _ _ hσ hi hp
  | true =>
    unfold isCall at hcall
    split at hcall
    · rename_i c ho
      split at hcall
      · rename_i x hc
        have hfd : ∀ d, o.dst = some d → Fresh H d := fun d hd => hf d hd (by simp [creates, ho, hc])
        simp only [wOp, ho, wCallOp, hc] at h
        have hx := inv.eval x
        have fin : ∀ (f : FuncId) (caps : List AV) (cvs : Array Value), a.eval x = .func (.func f) #[] cvs → cvs.size = caps.length → (∀ (i : Nat) v x, cvs[i]? = some v → caps[i]? = some x → RA S.C w Φ H v x) →
            wCall S draw o.dst f (c.args.toList.map (σ.eval S.n) ++ caps) σ k → o.wp S.C.P a w next Q := by
          intro f caps cvs hv hn hcv hw
          obtain ⟨e1, e2⟩ := call_args inv c.args caps cvs hn hcv
          obtain ⟨hent, hcalls⟩ := call_step good inv hfd e1 e2 hw
          unfold Oper.wp
          rw [enter_run ho hc hv hent, Oper.upon_enter]
          refine hcalls.mono ?_
          rintro en w' ⟨v, Φ', H', σ', rfl, hσ, hi, hp⟩
          exact hk _ _ _ _ _ hσ hi hp
        split at h
        · rename_i f caps heq
          rw [heq] at hx
          generalize a.eval x = vx at *
          cases hx with
          | one _ _ hx => cases hx with
            | clo _ _ vs hn hcv =>
              refine fin f _ vs rfl (by simpa using hn) (fun i v x h1 h2 => ?_) h
              rw [List.getElem?_map, Option.map_eq_some_iff] at h2
              obtain ⟨l, hl, rfl⟩ := h2
              exact .one _ _ (hcv i v l h1 hl)
        · rename_i f caps heq
          rw [heq] at hx
          generalize a.eval x = vx at *
          cases hx with
          | one _ _ hx => cases hx with
            | d _ _ hx => cases hx with
              | fn _ _ vs hn hcv =>
                refine fin f _ vs rfl (by simpa using hn) (fun i v x h1 h2 => ?_) h
                rw [List.getElem?_map, Option.map_eq_some_iff] at h2
                obtain ⟨l, hl, rfl⟩ := h2
                exact .one _ _ (.d _ _ (hcv i v l h1 hl))
        · exact h.elim
      · cases hcall
    · cases hcall
end
end Go.VS
namespace Go.VS
open Go Go.RowKit
set_option linter.unusedVariables false
set_option linter.unusedSimpArgs false

section
variable {S : Sys} {e : Entry} {Φ : Nat → Prop} {H : Tag → TI} {σ : Env} {a : Act} {w : World} {k : Env → Prop}

def ageH (D : List Nat) (H : Tag → TI) : Tag → TI
  | .loc d τ => if D.contains d then (match τ with | .par t => (H (.loc d t)).up (ren (age D)) | _ => .none) else (H (.loc d τ)).up (ren (age D))
  | g => (H g).up (ren (age D))
theorem ageH_age (D : List Nat) (H : Tag → TI) (g : Tag) : ageH D H (age D g) = (H g).up (ren (age D)) := by
  cases g with
  | loc d t =>
    simp only [age]
    split
    · rename_i h; simp only [ageH, h, if_true]
    · rename_i h; simp only [ageH, h]; rfl
  | _ => rfl
theorem ageH_some {D : List Nat} {H : Tag → TI} {g : Tag} (h : ageH D H g ≠ .none) : ∃ g', g = age D g' ∧ ageH D H g = (H g').up (ren (age D)) := by
  cases g with
  | loc d τ =>
    by_cases hd : D.contains d = true
    · cases τ with
      | par t => exact ⟨.loc d t, by simp only [age, hd, if_true], by simp only [ageH, hd, if_true]⟩
      | _ => simp only [ageH, hd, if_true] at h; exact absurd rfl h
    · refine ⟨.loc d τ, by simp only [age, hd]; rfl, ?_⟩
      have := ageH_age D H (.loc d τ)
      simp only [age, hd] at this
      exact this
  | nil => exact ⟨.nil, rfl, rfl⟩
  | par t => exact ⟨.par t, rfl, rfl⟩
  | var t => exact ⟨.var t, rfl, rfl⟩
theorem age_var {D : List Nat} {g : Tag} : (age D g).isVar = g.isVar := by
  cases g with
  | loc d t => simp only [age]; split <;> rfl
  | _ => rfl
theorem age_inj {D : List Nat} {g g' : Tag} (h : age D g = age D g') : g = g' := by
  cases g with
  | loc d t =>
    cases g' with
    | loc d' t' =>
      simp only [age] at h
      split at h
      · split at h
        · injection h with h1 h2; injection h2 with h2; rw [h1, h2]
        · rename_i q1 q2; injection h with h1 h2; rw [h1] at q1; exact absurd q1 q2
      · split at h
        · rename_i q1 q2; injection h with h1 h2; rw [h1] at q1; exact absurd q2 q1
        · exact h
    | _ => simp only [age] at h; split at h <;> cases h
  | _ =>
    cases g' with
    | loc d' t' => simp only [age] at h; split at h <;> cases h
    | _ => exact h

theorem Inv.age (h : Inv S e Φ H σ a w) (D : List Nat) : Inv S e Φ (ageH D H) (σ.up (ren (VS.age D))) a w := by
  have f : Fits S.C w w Φ Φ H (ageH D H) (ren (VS.age D)) := by
    refine ⟨fun _ hb => hb, fun _ _ => rfl, fun g t xs v hg h1 => ?_, fun g t hg => .own0 _ t (by rw [age_var]; exact hg), fun g off c b hg => ?_, fun g t xs i off b n cap hg hlt => ?_, fun g k x F v hg h1 => ?_⟩
    · exact .own _ t xs v (by rw [ageH_age, hg]; rfl) h1
    · exact .ptr _ off _ b (by rw [ageH_age, hg]; rfl)
    · exact .eptr _ t xs i off b n cap (by rw [ageH_age, hg]; rfl) hlt
    · exact .obj _ k x F v (by rw [ageH_age, hg]; rfl) h1
  have foot : ∀ g b, b ∈ (ageH D H g).foot → ∃ g', g = VS.age D g' ∧ b ∈ (H g').foot := by
    intro g b hb
    have : ageH D H g ≠ .none := fun e1 => by rw [e1] at hb; simp [TI.foot] at hb
    obtain ⟨g', h1, h2⟩ := ageH_some this
    exact ⟨g', h1, by rw [h2, TI.foot_up] at hb; exact hb⟩
  exact
  { hi :=
    { disj := fun g g' b h1 h2 => by
        obtain ⟨x, rfl, hx⟩ := foot g b h1
        obtain ⟨y, rfl, hy⟩ := foot g' b h2
        rw [h.hi.disj x y b hx hy]
      nophi := fun g b h1 => by
        obtain ⟨x, rfl, hx⟩ := foot g b h1
        exact h.hi.nophi x b hx
      lt := fun g b h1 => by
        obtain ⟨x, rfl, hx⟩ := foot g b h1
        exact h.hi.lt x b hx
      phi := h.hi.phi
      ok := fun g => by
        by_cases hg : ageH D H g = .none
        · rw [hg]; exact .none
        · obtain ⟨x, rfl, hx⟩ := ageH_some hg
          rw [hx]
          exact (h.hi.ok x).up f (fun _ _ => rfl)
      novar := fun g hg => by
        by_cases hn : ageH D H g = .none
        · exact hn
        · obtain ⟨x, rfl, hx⟩ := ageH_some hn
          rw [hx, h.hi.novar x (by rw [← age_var]; exact hg)]
          rfl }
    env := fun t => by rw [Env.get_up]; exact (h.env t).up f
    G := h.G
    n := h.n
    defers := h.defers
    fr :=
    { h.fr with
      foot := fun g b hb => by
        obtain ⟨x, rfl, hx⟩ := foot g b hb
        exact h.fr.foot x b hx
      par := fun g hg => by
        have := h.fr.par g hg
        simp only [ageH, this]
        rfl } }

theorem age_fresh {D : List Nat} {d : Nat} (hd : D.contains d = true) : Fresh (ageH D H) d := by
  intro τ hτ
  cases τ with
  | par t => exact absurd rfl (hτ t)
  | _ => simp only [ageH, hd, if_true]

def FreshFor (H : Tag → TI) (ops : List Oper) : Prop := ∀ o, o ∈ ops → ∀ d, o.dst = some d → creates o.op = true → Fresh H d

theorem creators_mem {ops : List Oper} {o : Oper} {d : Nat} (ho : o ∈ ops) (hd : o.dst = some d) (hc : creates o.op = true) : d ∈ creators ops := by
  induction ops with
  | nil => cases ho
  | cons x r ih =>
    simp only [creators]
    rcases List.mem_cons.1 ho with rfl | ho
    · simp [creator, hc, hd]
    · have := ih ho
      unfold creator
      split
      · exact List.mem_cons_of_mem _ this
      · exact this

theorem Inv.aged (h : Inv S e Φ H σ a w) (ops : List Oper) : FreshFor (ageH (creators ops) H) ops := fun o ho d hd hc => age_fresh (by simpa using creators_mem ho hd hc)

theorem Pres.fresh {dst : Option Nat} {H H' : Tag → TI} (hp : Pres dst H H') {d : Nat} (hne : dst ≠ some d) (hf : Fresh H d) : Fresh H' d := fun τ hτ => hp d τ hne (hf τ hτ)

/-- An operation with its guard. -/
theorem guard_sound (good : Good S) {draw mutOk : Bool} {ops : Array Oper} {o : Oper} (inv : Inv S e Φ H σ a w) (hf : ∀ d, o.dst = some d → creates o.op = true → Fresh H d) (h : wGuard S draw mutOk ops.toList o σ k)
    {next : Act → World → Prop} {Q : Exit → Act → World → Prop} (hk : ∀ Φ' H' σ' a' w', k σ' → Inv S e Φ' H' σ' a' w' → Pres o.dst H H' → next a' w') :
    if Region.wanted o (yielded ops a.tmps) then o.wp S.C.P a w next Q else next (a.put o.dst undef) w := by
  unfold wGuard at h
  cases hg : o.guard with
  | none =>
    simp only [hg] at h
    rw [if_pos (by simp [Region.wanted, hg])]
    exact oper_sound good inv hf h hk
  | some p =>
    obtain ⟨j, want⟩ := p
    simp only [hg] at h
    split at h
    · exact h.elim
    · rename_i t ht
      obtain ⟨htn, hb⟩ := h
      have hv := inv.env t
      simp only [cellv, htn, if_true] at hv
      have hlt : t < a.tmps.size := by rw [inv.n]; exact htn
      have hslot : (ops[j]?).bind (·.dst) = some t := by
        unfold guardSlot at ht
        simpa using ht
      have skip : wPut S o.dst (.tup []) σ k → next (a.put o.dst undef) w := fun h2 => by
        obtain ⟨σ', hσ, hi⟩ := inv.wPut h2 (v := undef) (.tup [] #[] rfl (fun i v a h => by simp at h))
        exact hk _ _ _ _ _ hσ hi (Pres.refl _ _)
      unfold wSkip at hb
      split at hb
      · rename_i b hb'
        rw [hb'] at hv
        have hv := hv.bool
        obtain ⟨h1, h2⟩ := hb
        have hyield : yielded ops a.tmps j = some b := by
          unfold yielded
          rw [hslot]
          have : a.tmps[t]? = some (.bool b) := by
            simp only [Array.getD_eq_getD_getElem?, Array.getElem?_eq_getElem hlt, Option.getD_some] at hv
            rw [Array.getElem?_eq_getElem hlt, hv]
          simp only [Option.bind_some, this]
        by_cases hbw : b = want
        · rw [if_pos (by simp [Region.wanted, hg, hyield, hbw])]
          exact oper_sound good inv hf (h1 hbw) hk
        · rw [if_neg (by simp [Region.wanted, hg, hyield, hbw])]
          have hbw' : b = !want := by cases b <;> cases want <;> simp at hbw ⊢
          exact skip (h2 hbw')
      · rename_i hb'
        rw [hb'] at hv
        have hyield : yielded ops a.tmps j = none := by
          unfold yielded
          rw [hslot]
          have : a.tmps[t]? = some (.tuple #[]) := by
            simp only [Array.getD_eq_getD_getElem?, Array.getElem?_eq_getElem hlt, Option.getD_some] at hv
            rw [Array.getElem?_eq_getElem hlt]
            generalize a.tmps[t] = x at hv ⊢
            cases hv with
            | tup _ vs hn _ =>
              have : vs = #[] := by simpa using hn
              rw [this]
          simp only [Option.bind_some, this]
        rw [if_neg (by simp [Region.wanted, hg, hyield])]
        exact skip hb
      · exact hb.elim

theorem sole_ne {ops r : List Oper} {o o' : Oper} {d : Nat} {l : List Oper} (hs : sole ops = true) (hops : ops = l ++ o :: r) (ho' : o' ∈ r) (hd : o'.dst = some d) (hc : creates o'.op = true) : o.dst ≠ some d := by
  intro h0
  have h1 := List.all_eq_true.1 hs o' (by rw [hops]; simp [ho'])
  simp only [hc, hd, Bool.not_true, Bool.false_or, decide_eq_true_eq] at h1
  rw [hops, List.filter_append, List.filter_cons] at h1
  simp only [h0, beq_self_eq_true, if_true, List.length_append, List.length_cons] at h1
  have h2 : 0 < (r.filter (fun o' => o'.dst == some d)).length := List.length_pos_of_mem (List.mem_filter.2 ⟨ho', by simp [hd]⟩)
  omega

theorem ops_sound (good : Good S) {ops : Array Oper} (hs : sole ops.toList = true) {mutOk : Nat → Bool} {Q : Exit → Act → World → Prop} {k : Env → Prop} (hk : ∀ Φ' H' σ' a' w', k σ' → Inv S e Φ' H' σ' a' w' → Q .normal a' w') :
    ∀ (rest l : List Oper) (i : Nat) {Φ : Nat → Prop} {H : Tag → TI} {σ : Env} {a : Act} {w : World}, ops.toList = l ++ rest → Inv S e Φ H σ a w → FreshFor H rest → wOps S false mutOk ops.toList i rest σ k → wpList S.C.P ops Q rest a w
  | [], l, i, Φ, H, σ, a, w, hops, inv, hf, h => hk _ _ _ _ _ h inv
  | o :: r, l, i, Φ, H, σ, a, w, hops, inv, hf, h => by
    have hstep := guard_sound (Q := Q) good inv (hf o (by simp)) h (next := wpList S.C.P ops Q r) (fun Φ' H' σ' a' w' hσ hi hp =>
      ops_sound good hs hk r (l ++ [o]) (i + 1) (by rw [hops]; simp) hi (fun o' ho' d hd hc => hp.fresh (sole_ne hs hops ho' hd hc) (hf o' (by simp [ho']) d hd hc)) hσ)
    unfold wpList
    split at hstep
    · rename_i hw; rw [if_pos hw]; exact .inl hstep
    · rename_i hw; rw [if_neg hw]; exact hstep

/-- A region in the order of its text. -/
theorem region_text (good : Good S) {id : Nat} {ops : Array Oper} (hs : sole ops.toList = true) {mutOk : Nat → Bool} {Q : Exit → Act → World → Prop} (inv : Inv S e Φ H σ a w) (h : wOps S false mutOk ops.toList 0 ops.toList (σ.up (ren (VS.age (creators ops.toList)))) k)
    (hk : ∀ Φ' H' σ' a' w', k σ' → Inv S e Φ' H' σ' a' w' → Q .normal a' w') : (Code.region id ops false).wp S.C.P Q a w :=
  wp_region_list (ops_sound good hs hk ops.toList [] 0 (by simp) (inv.age (creators ops.toList)) (inv.aged ops.toList) h)
end
end Go.VS
namespace Go.VS
open Go Go.RowKit
set_option linter.unusedVariables false
set_option linter.unusedSimpArgs false

/-- Something is asked; then one of some values is given. -/
def Good1 {α : Type} (F : (α → Prop) → Prop) : Prop := ∃ (D : Prop) (V : α → Prop), (∀ K, F K ↔ D ∧ ∀ v, V v → K v) ∧ (D → ∃ v, V v)

theorem good_false {α : Type} : Good1 (fun _ : α → Prop => False) := ⟨False, fun _ => False, fun K => by simp, fun h => h.elim⟩
theorem good_pure {α : Type} (v : α) : Good1 (fun K : α → Prop => K v) := ⟨True, fun u => u = v, fun K => by simp, fun _ => ⟨v, rfl⟩⟩
theorem good_and {α : Type} {C : Prop} {F : (α → Prop) → Prop} (h : Good1 F) : Good1 (fun K => C ∧ F K) := by
  obtain ⟨D, V, h1, h2⟩ := h
  exact ⟨C ∧ D, V, fun K => by show C ∧ F K ↔ _; rw [h1 K, and_assoc], fun h => h2 h.2⟩
theorem good_map {α β : Type} {F : (α → Prop) → Prop} (f : α → β) (h : Good1 F) : Good1 (fun K : β → Prop => F (fun v => K (f v))) := by
  obtain ⟨D, V, h1, h2⟩ := h
  refine ⟨D, fun u => ∃ v, V v ∧ f v = u, fun K => ?_, fun hd => ?_⟩
  · show F (fun v => K (f v)) ↔ _
    rw [h1]
    constructor
    · rintro ⟨hd, hv⟩
      exact ⟨hd, fun u ⟨v, h3, h4⟩ => h4 ▸ hv v h3⟩
    · rintro ⟨hd, hv⟩
      exact ⟨hd, fun v h3 => hv _ ⟨v, h3, rfl⟩⟩
  · obtain ⟨v, hv⟩ := h2 hd
    exact ⟨_, v, hv, rfl⟩
theorem good_congr {α : Type} {F G : (α → Prop) → Prop} (h : Good1 F) (he : ∀ K, G K ↔ F K) : Good1 G := by
  obtain ⟨D, V, h1, h2⟩ := h
  exact ⟨D, V, fun K => (he K).trans (h1 K), h2⟩
theorem good_ite {α : Type} {C : Prop} {F G : (α → Prop) → Prop} (h1 : Good1 F) (h2 : Good1 G) : Good1 (fun K => (C → F K) ∧ (¬ C → G K)) := by
  by_cases hc : C
  · exact good_congr h1 (fun K => by simp [hc])
  · exact good_congr h2 (fun K => by simp [hc])
theorem good_drop {α : Type} {C : Prop} {F : (α → Prop) → Prop} (hc : C) (h : Good1 F) : Good1 (fun K => C → F K) := good_congr h (fun K => by simp [hc])

/-- Two that do not hear of one another may change places. -/
theorem good_comm {α β : Type} {F : (α → Prop) → Prop} {G : (β → Prop) → Prop} (hF : Good1 F) (hG : Good1 G) {K : α → β → Prop} (h : F (fun v => G (fun u => K v u))) : G (fun u => F (fun v => K v u)) := by
  obtain ⟨D, V, h1, h2⟩ := hF
  obtain ⟨D', V', h3, h4⟩ := hG
  rw [h1] at h
  obtain ⟨hd, hv⟩ := h
  rw [h3]
  obtain ⟨v0, hv0⟩ := h2 hd
  have h5 := (h3 _).1 (hv v0 hv0)
  refine ⟨h5.1, fun u hu => ?_⟩
  rw [h1]
  exact ⟨hd, fun v hvv => ((h3 _).1 (hv v hvv)).2 u hu⟩
theorem good_mono {α : Type} {F : (α → Prop) → Prop} (hF : Good1 F) {K K' : α → Prop} (h : F K) (hk : ∀ v, K v → K' v) : F K' := by
  obtain ⟨D, V, h1, h2⟩ := hF
  rw [h1] at h ⊢
  exact ⟨h.1, fun v hv => hk v (h.2 v hv)⟩

section
variable (S : Sys)

theorem good_part (t : TypeId) (c : List LV) (off : Nat) : Good1 (wPart S t c off) := by
  show Good1 (fun K => wPart S t c off K)
  simp only [wPart]
  refine good_and (good_and ?_)
  cases tAgg S.C.P t with
  | none => exact good_false
  | some b =>
    cases b
    · cases c[off]? with
      | none => exact good_false
      | some l => exact good_pure _
    · exact good_pure _

theorem good_load (t : TypeId) (a : AV) : Good1 (wLoad S t a) := by
  show Good1 (fun K => wLoad S t a K)
  rcases a with l | ls | vs
  · cases l <;> simp only [wLoad] <;> first | exact good_part .. | exact good_false
  · exact good_false
  · exact good_false

theorem good_field (s : TypeId) (a : AV) (f : Nat) : Good1 (wField S s a f) := by
  show Good1 (fun K => wField S s a f K)
  simp only [wField]
  cases tOff S.C.P s f with
  | none => exact good_false
  | some p =>
    obtain ⟨o, ft⟩ := p
    refine good_and ?_
    rcases a with l | ls | vs
    · cases l <;> first | exact good_pure _ | exact good_false
    · exact good_false
    · exact good_false

theorem good_indexAddr (t : TypeId) (a i : AV) : Good1 (wIndexAddr S t a i) := by
  show Good1 (fun K => wIndexAddr S t a i K)
  simp only [wIndexAddr]
  cases tElem S.C.P t with
  | none => exact good_false
  | some e =>
    rcases i with l | ls | vs
    · cases l with
      | d x =>
        cases x with
        | int k n =>
          rcases a with l | ls | vs
          · cases l with
            | d y => cases y <;> first | exact good_and (good_and (good_and (good_and (good_pure _)))) | exact good_false
            | own => exact good_and (good_and (good_and (good_and (good_pure _))))
            | _ => exact good_false
          · exact good_false
          · exact good_false
        | _ => exact good_false
      | _ => exact good_false
    · exact good_false
    · exact good_false

theorem good_bool {α : Type} (a : AV) {F : Bool → (α → Prop) → Prop} (h : ∀ b, Good1 (F b)) : Good1 (fun K => wBool a fun b => F b K) := by
  rcases a with l | ls | vs
  · cases l with
    | d x => cases x <;> first | exact h _ | exact good_false
    | _ => exact good_false
  · exact good_false
  · exact good_false

theorem good_int (op : BinOp) (kd : IntKind) (m n : Int) : Good1 (wInt op kd m n) := by
  show Good1 (fun K => wInt op kd m n K)
  cases op <;> simp only [wInt] <;> first | exact good_pure _ | exact good_and (good_pure _) | exact good_false

theorem good_nil (op : BinOp) (t : TypeId) (y : Operand) (l : LV) : Good1 (wNil S op t y l) := by
  show Good1 (fun K => wNil S op t y l K)
  simp only [wNil]
  refine good_and (good_and ?_)
  cases l.isNil with
  | none => exact good_false
  | some z => cases op <;> first | exact good_pure _ | exact good_false

theorem bin_nil {S : Sys} {op : BinOp} {t : TypeId} {x y : Operand} {l : LV} {K : DV → Prop} : wBin S op t x y (.one l) (.one (.d .nil)) K ↔ wNil S op t y l K := by
  cases l with
  | d x => cases x <;> exact Iff.rfl
  | _ => exact Iff.rfl
theorem good_bin (op : BinOp) (t : TypeId) (x y : Operand) (a b : AV) : Good1 (wBin S op t x y a b) := by
  show Good1 (fun K => wBin S op t x y a b K)
  rcases b with lb | ls | vs
  · cases lb with
    | d db =>
      cases db with
      | nil =>
        rcases a with la | ls | vs
        · cases la with
          | _ => exact good_congr (good_nil S op t y _) (fun K => bin_nil)
        · exact good_false
        · exact good_false
      | int kb n =>
        rcases a with la | ls | vs
        · cases la with
          | d da =>
            cases da with
            | int ka m => cases op <;> simp only [wBin] <;> first | exact good_and (good_pure _) | exact good_and (good_int ..) | exact good_false
            | _ => exact good_false
          | _ => exact good_false
        · exact good_false
        · exact good_false
      | str n =>
        rcases a with la | ls | vs
        · cases la with
          | d da =>
            cases da with
            | str m => cases op <;> simp only [wBin] <;> first | exact good_and (good_pure _) | exact good_pure _ | exact good_false
            | _ => exact good_false
          | _ => exact good_false
        · exact good_false
        · exact good_false
      | bool n =>
        rcases a with la | ls | vs
        · cases la with
          | d da =>
            cases da with
            | bool m => cases op <;> simp only [wBin] <;> first | exact good_and (good_pure _) | exact good_and good_false
            | _ => exact good_false
          | _ => exact good_false
        · exact good_false
        · exact good_false
      | err n =>
        rcases a with la | ls | vs
        · cases la with
          | d da =>
            cases da with
            | err m => cases n <;> first | exact good_false | (cases op <;> simp only [wBin] <;> first | exact good_and (good_and (good_pure _)) | exact good_and (good_and good_false))
            | _ => exact good_false
          | _ => exact good_false
        · exact good_false
        · exact good_false
      | _ =>
        rcases a with la | ls | vs
        · cases la with
          | d da => cases da <;> exact good_false
          | _ => exact good_false
        · exact good_false
        · exact good_false
    | _ =>
      rcases a with la | ls | vs
      · cases la with
        | d da => cases da <;> exact good_false
        | _ => exact good_false
      · exact good_false
      · exact good_false
  · rcases a with la | ls | vs
    · cases la with
      | d da => cases da <;> exact good_false
      | _ => exact good_false
    · exact good_false
    · exact good_false
  · rcases a with la | ls | vs
    · cases la with
      | d da => cases da <;> exact good_false
      | _ => exact good_false
    · exact good_false
    · exact good_false

theorem good_len (t : TypeId) (a : AV) : Good1 (wLen S true t a) := by
  show Good1 (fun K => wLen S true t a K)
  rcases a with l | ls | vs
  · cases l with
    | d x => cases x <;> simp only [wLen] <;> first | exact good_and (good_pure _) | exact good_and (good_drop (by simp) (good_pure _)) | exact good_false
    | own => simp only [wLen]; exact good_and (good_drop (by simp) (good_pure _))
    | _ => exact good_false
  · exact good_false
  · exact good_false

theorem good_minmax (m : Bool) (a b : AV) : Good1 (wMinMax m [a, b]) := by
  show Good1 (fun K => wMinMax m [a, b] K)
  rcases a with l | ls | vs
  · cases l with
    | d x =>
      cases x with
      | int =>
        rcases b with l | ls | vs
        · cases l with
          | d y => cases y <;> first | exact good_and (good_pure _) | exact good_false
          | _ => exact good_false
        · exact good_false
        · exact good_false
      | _ => exact good_false
    | _ => exact good_false
  · exact good_false
  · exact good_false

theorem good_convB (src dst : TypeId) (l : LV) : Good1 (wConvB S src dst l) := by
  show Good1 (fun K => wConvB S src dst l K)
  simp only [wConvB]
  cases l.rows? S.C.P with
  | none => exact good_false
  | some p =>
    obtain ⟨_, xs, _⟩ := p
    simp only
    cases S.C.P.underlying src with
    | none => exact good_false
    | some d =>
      cases d with
      | slice e =>
        cases S.C.P.underlying dst with
        | none => exact good_false
        | some d2 =>
          cases d2 with
          | string =>
            simp only
            cases rowsU8 xs with
            | none => exact good_and good_false
            | some ns => exact good_and (good_pure _)
          | _ => exact good_false
      | _ => exact good_false
theorem good_convert (src dst : TypeId) (a : AV) : Good1 (wConvert S src dst a) := by
  show Good1 (fun K => wConvert S src dst a K)
  rcases a with l | ls | vs
  · cases l with
    | d x =>
      cases x with
      | int k n =>
        simp only [wConvert]
        cases S.C.P.underlying src with
        | none => exact good_false
        | some d =>
          cases d with
          | int k1 =>
            cases S.C.P.underlying dst with
            | none => exact good_false
            | some d2 => cases d2 <;> first | exact good_pure _ | exact good_false
          | _ => exact good_false
      | str s =>
        simp only [wConvert]
        cases S.C.P.underlying src with
        | none => exact good_false
        | some d =>
          cases d with
          | string =>
            cases S.C.P.underlying dst with
            | none => exact good_false
            | some d2 => cases d2 <;> first | exact good_pure _ | exact good_false
          | _ => exact good_false
      | _ => simp only [wConvert]; exact good_convB S src dst _
    | _ => simp only [wConvert]; exact good_convB S src dst _
  · exact good_false
  · exact good_false

/-- The value of a slice expression. -/
def vSlice (t : TypeId) (a : AV) (lo hi : Option AV) (K : AV → Prop) : Prop := wSlice S true t a lo hi [] fun v _ => K v
theorem vSlice_eq (t : TypeId) (a : AV) (lo hi : Option AV) (σ : Env) (k : AV → Env → Prop) : wSlice S true t a lo hi σ k ↔ vSlice S t a lo hi fun v => k v σ := by
  unfold vSlice wSlice
  split
  · rfl
  · split
    · split
      · split
        · rfl
        · simp
      · rfl
    · rfl
  · rfl
theorem good_slice (t : TypeId) (a : AV) (lo hi : Option AV) : Good1 (vSlice S t a lo hi) := by
  show Good1 (fun K => wSlice S true t a lo hi [] fun v _ => K v)
  have list : ∀ l : LV, (∀ s, l ≠ .d (.str s)) → Good1 (fun K : AV → Prop => wSlice S true t (.one l) lo hi [] fun v _ => K v) := by
    intro l hl
    have he : ∀ K : AV → Prop, wSlice S true t (.one l) lo hi [] (fun v _ => K v) ↔ (match tElem S.C.P t, l.rows? S.C.P with
      | some e, some (e', xs, L) => (xs = [] ∨ e' = S.C.P.cellsOf e) ∧ S.C.P.cellsOf e ≠ 0 ∧
        match optInt 0 lo, optInt xs.length hi with
        | some l, some h => 0 ≤ l ∧ l ≤ h ∧ h ≤ xs.length ∧ if L = [] then K (.one (.d (.list (S.C.P.cellsOf e) ((xs.take h.toNat).drop l.toNat)))) else False
        | _, _ => False
      | _, _ => False) := by
      intro K
      unfold wSlice
      split
      · rename_i s heq; injection heq with heq; exact absurd heq (hl s)
      · rename_i l' _ heq
        injection heq with heq
        subst heq
        cases hE : tElem S.C.P t with
        | none => simp
        | some e =>
          cases hR : l.rows? S.C.P with
          | none => simp
          | some p =>
            obtain ⟨e', xs, L⟩ := p
            simp only []
            cases hl1 : optInt 0 lo with
            | none => simp [hl1]
            | some lo' =>
              cases hh1 : optInt xs.length hi with
              | none => simp [hl1, hh1]
              | some hi' => by_cases hL : L = [] <;> simp [hl1, hh1, hL]
      · rename_i _ heq; exact absurd rfl (heq l)
    refine good_congr ?_ he
    cases tElem S.C.P t with
    | none => exact good_false
    | some e =>
      cases l.rows? S.C.P with
      | none => exact good_false
      | some p =>
        obtain ⟨e', xs, L⟩ := p
        refine good_and (good_and ?_)
        cases optInt 0 lo with
        | none => exact good_false
        | some lo' =>
          cases optInt xs.length hi with
          | none => exact good_false
          | some hi' =>
            refine good_and (good_and (good_and ?_))
            by_cases hL : L = []
            · simp only [hL, if_true]; exact good_pure _
            · simp only [hL, if_false]; exact good_false
  rcases a with l | ls | vs
  · cases l with
    | d x =>
      cases x with
      | str s =>
        simp only [wSlice]
        refine good_and ?_
        cases optInt 0 lo with
        | none => exact good_false
        | some lo' =>
          cases optInt s.size hi with
          | none => exact good_false
          | some hi' => exact good_and (good_and (good_and (good_pure _)))
      | _ => exact list _ (by simp)
    | _ => exact list _ (by simp)
  · exact good_false
  · exact good_false

/-- The value of an 'append' that writes nothing. -/
def vAppend (d : Tmp) (e : TypeId) (a b : AV) (K : AV → Prop) : Prop := wAppend S false d e a b [] fun v _ => K v
theorem vAppend_eq (d : Tmp) (e : TypeId) (a b : AV) (σ : Env) (k : AV → Env → Prop) : wAppend S false d e a b σ k ↔ vAppend S d e a b fun v => k v σ := by
  unfold vAppend wAppend
  split
  · split
    · rfl
    · split
      · split
        · rfl
        · simp
      · rfl
      · rfl
  · rfl
theorem good_append (d : Tmp) (e : TypeId) (a b : AV) : Good1 (vAppend S d e a b) := by
  show Good1 (fun K => wAppend S false d e a b [] fun v _ => K v)
  rcases b with lb | ls | vs
  · simp only [wAppend]
    cases lb.rows? S.C.P with
    | none => exact good_false
    | some p =>
      obtain ⟨e', ys, L⟩ := p
      refine good_and (good_and (good_and ?_))
      rcases a with la | ls | vs
      · cases la with
        | own g t xs =>
          refine good_and (good_and ?_)
          cases hg : g.isVar with
          | true => simp only [hg, if_true]; exact good_ite (good_pure _) (good_pure _)
          | false => simp only [hg, Bool.false_eq_true, if_false, false_and]; exact good_false
        | d x => cases x <;> first | exact good_and (good_ite (good_pure _) (good_pure _)) | exact good_false
        | _ => exact good_false
      · exact good_false
      · exact good_false
  · exact good_false
  · exact good_false

/-- The value of a call that writes nothing and gives nothing away. -/
def vCall (dst : Option Tmp) (n : FuncId) (args : List AV) (K : AV → Prop) : Prop :=
  match S.X n with
  | none => False
  | some F => match pass S.C.P 0 F.rw args with
    | none => False
    | some (as, T, L) => match F.post as with
      | none => False
      | some R => (T.Nodup ∧ ((nilAs as).map Prod.fst).Nodup ∧ (∀ g, g ∈ T → g ∉ L) ∧ (∃ r o, R r o)) ∧ ∀ r o, R r o → if T = [] ∧ r.scalar = true then K r else match dst with | none => False | some d => if T = [] ∧ L = [] then K (r.up (retL d)) else False
theorem vCall_eq (dst : Option Tmp) (n : FuncId) (args : List AV) (σ : Env) (k : Env → Prop) : wCall S true dst n args σ k ↔ vCall S dst n args fun v => wPut S dst v σ k := by
  unfold vCall wCall
  cases hX : S.X n with
  | none => simp
  | some F =>
    simp only []
    cases hp : pass S.C.P 0 F.rw args with
    | none => simp
    | some p =>
      obtain ⟨as, T, L⟩ := p
      simp only []
      cases hR : F.post as with
      | none => simp
      | some R =>
        refine and_congr_right fun _ => forall_congr' fun r => forall_congr' fun o => imp_congr_right fun _ => ?_
        by_cases hc : T = [] ∧ r.scalar = true
        · rw [if_pos hc, if_pos hc]
        · rw [if_neg hc, if_neg hc]
          cases dst with
          | none => rfl
          | some d => by_cases h2 : T = [] ∧ L = [] <;> simp [h2]
theorem good_call (dst : Option Tmp) (n : FuncId) (args : List AV) : Good1 (vCall S dst n args) := by
  show Good1 (fun K => vCall S dst n args K)
  simp only [vCall]
  cases S.X n with
  | none => exact good_false
  | some F =>
    dsimp only
    cases pass S.C.P 0 F.rw args with
    | none => exact good_false
    | some p =>
      obtain ⟨as, T, L⟩ := p
      dsimp only
      cases F.post as with
      | none => exact good_false
      | some R =>
        refine ⟨(T.Nodup ∧ ((nilAs as).map Prod.fst).Nodup ∧ (∀ g, g ∈ T → g ∉ L) ∧ (∃ r o, R r o)) ∧ ∀ r o, R r o → (T = [] ∧ r.scalar = true) ∨ (∃ d, dst = some d ∧ T = [] ∧ L = []),
          fun v => ∃ r o, R r o ∧ v = (if T = [] ∧ r.scalar = true then r else r.up (retL (dst.getD 0))), fun K => ?_, ?_⟩
        · simp only []
          constructor
          · rintro ⟨hd, h⟩
            refine ⟨⟨hd, fun r o hr => ?_⟩, ?_⟩
            · have := h r o hr
              split at this
              · rename_i hc; exact .inl hc
              · split at this
                · exact this.elim
                · rename_i d
                  split at this
                  · rename_i hc; exact .inr ⟨d, rfl, hc.1, hc.2⟩
                  · exact this.elim
            · rintro v ⟨r, o, hr, rfl⟩
              have := h r o hr
              split at this
              · rename_i hc; rw [if_pos hc]; exact this
              · rename_i hc
                rw [if_neg hc]
                split at this
                · exact this.elim
                · split at this
                  · exact this
                  · exact this.elim
          · rintro ⟨⟨hd, h1⟩, h2⟩
            refine ⟨hd, fun r o hr => ?_⟩
            have h3 := h2 _ ⟨r, o, hr, rfl⟩
            by_cases hc : T = [] ∧ r.scalar = true
            · rw [if_pos hc] at h3 ⊢; exact h3
            · rw [if_neg hc] at h3 ⊢
              rcases h1 r o hr with h4 | ⟨d, rfl, h4, h5⟩
              · exact absurd h4 hc
              · simp only [h4, h5, and_self, if_true]; exact h3
        · rintro ⟨⟨_, _, _, r, o, hr⟩, _⟩
          exact ⟨_, r, o, hr, rfl⟩
end
end Go.VS
namespace Go.VS
open Go Go.RowKit
set_option linter.unusedVariables false
set_option linter.unusedSimpArgs false

/-- An operation that may write. -/
def isMut : Op → Bool
  | .store .. => true
  | .call c => match c.callee with
    | .builtin .append => true
    | _ => false
  | _ => false

structure Form (S : Sys) (m : Bool) (o : Oper) (F : (Operand → AV) → (AV → Prop) → Prop) : Prop where
  good : ∀ ev, Good1 (F ev)
  deps : ∀ ev ev' : Operand → AV, (∀ x, x ∈ o.op.operands → ev x = ev' x) → F ev = F ev'
  eq : ∀ σ k, wOp S true m o σ k ↔ F (σ.eval S.n) (fun v => wPut S o.dst v σ k)

section
variable {S : Sys}

theorem wParts_congr {t : TypeId} {ev ev' : Operand → AV} : ∀ (ps : List (Nat × Operand)) (ls : List LV), (∀ p, p ∈ ps → ev p.2 = ev' p.2) → wParts S t ev ps ls = wParts S t ev' ps ls
  | [], ls, h => rfl
  | (i, x) :: r, ls, h => by
    have h1 : ev x = ev' x := h (i, x) (by simp)
    simp only [wParts, h1]
    split
    · split
      · exact wParts_congr r _ (fun p hp => h p (by simp [hp]))
      · rfl
    · rfl
theorem wRows_congr {sz : Nat} {ev ev' : Operand → AV} : ∀ (ps : List (Nat × Operand)) (xs : List (List DV)) (T : List Tag), (∀ p, p ∈ ps → ev p.2 = ev' p.2) → wRows S sz ev ps xs T = wRows S sz ev' ps xs T
  | [], xs, T, h => rfl
  | (i, x) :: r, xs, T, h => by
    have h1 : ev x = ev' x := h (i, x) (by simp)
    simp only [wRows, h1]
    split
    · split
      · split
        · exact wRows_congr r _ _ (fun p hp => h p (by simp [hp]))
        · rfl
      · rfl
    · rfl
theorem capsOf_congr {ev ev' : Operand → AV} : ∀ (xs : List Operand), (∀ x, x ∈ xs → ev x = ev' x) → capsOf ev xs = capsOf ev' xs
  | [], h => rfl
  | x :: r, h => by
    simp only [capsOf, h x (by simp), capsOf_congr r (fun y hy => h y (by simp [hy]))]

theorem map_congr' {ev ev' : Operand → AV} {xs : List Operand} (h : ∀ x, x ∈ xs → ev x = ev' x) : xs.map ev = xs.map ev' := List.map_congr_left h

theorem parts_mem {ps : Array (Nat × Operand)} {p : Nat × Operand} (h : p ∈ ps.toList) : p.2 ∈ ((ps.toList.map (·.2)).toArray) := by
  simp only [List.mem_toArray, List.mem_map]
  exact ⟨p, h, rfl⟩

theorem form_call {m : Bool} {o : Oper} {c : Call} (ho : o.op = .call c) (hm : m = false ∨ isMut o.op = false) : ∃ F, Form S m o F := by
  have hargs : ∀ x, x ∈ c.args.toList → x ∈ o.op.operands := fun x hx => by
    rw [ho]
    simp only [Op.operands, Call.operands]
    exact Array.mem_append.2 (.inr (by simpa using hx))
  have eq0 : ∀ σ k, wOp S true m o σ k ↔ wCallOp S true m o.dst c σ k := fun σ k => by unfold wOp; rw [ho]
  cases hc : c.callee with
  | invoke r n => exact ⟨fun _ _ => False, fun _ => good_false, fun _ _ _ => rfl, fun σ k => by rw [eq0]; simp [wCallOp, hc]⟩
  | value f =>
    have hf : f ∈ o.op.operands := by
      rw [ho]
      simp only [Op.operands, Call.operands, hc]
      exact Array.mem_append.2 (.inl (by simp))
    refine ⟨fun ev K => match ev f with
      | .one (.clo g caps) => vCall S o.dst g (c.args.toList.map ev ++ caps.map .one) K
      | .one (.d (.fn g caps)) => vCall S o.dst g (c.args.toList.map ev ++ caps.map (fun c => .one (.d c))) K
      | _ => False, fun ev => ?_, fun ev ev' h => ?_, fun σ k => ?_⟩
    · rcases ev f with l | ls | vs
      · cases l with
        | clo g caps => exact good_call ..
        | d x => cases x <;> first | exact good_call .. | exact good_false
        | _ => exact good_false
      · exact good_false
      · exact good_false
    · rw [h f hf, map_congr' (fun x hx => h x (hargs x hx))]
    · rw [eq0]
      simp only [wCallOp, hc]
      cases hev : σ.eval S.n f with
      | one l =>
        cases l with
        | clo g caps => exact vCall_eq ..
        | d x => cases x <;> first | exact vCall_eq .. | exact Iff.rfl
        | _ => exact Iff.rfl
      | _ => exact Iff.rfl
  | builtin b =>
    cases b with
    | len =>
      match hx : c.args.toList, ht : c.argTypes.toList with
      | [x], [t] =>
        have hxm : x ∈ o.op.operands := hargs x (by rw [hx]; simp)
        exact ⟨fun ev K => wLen S true t (ev x) K, fun ev => good_len .., fun ev ev' h => by rw [h x hxm], fun σ k => by rw [eq0]; simp only [wCallOp, hc, hx, ht]⟩
      | [], _ => exact ⟨fun _ _ => False, fun _ => good_false, fun _ _ _ => rfl, fun σ k => by rw [eq0]; simp [wCallOp, hc, hx]⟩
      | _ :: _ :: _, _ => exact ⟨fun _ _ => False, fun _ => good_false, fun _ _ _ => rfl, fun σ k => by rw [eq0]; simp [wCallOp, hc, hx]⟩
      | [_], [] => exact ⟨fun _ _ => False, fun _ => good_false, fun _ _ _ => rfl, fun σ k => by rw [eq0]; simp [wCallOp, hc, hx, ht]⟩
      | [_], _ :: _ :: _ => exact ⟨fun _ _ => False, fun _ => good_false, fun _ _ _ => rfl, fun σ k => by rw [eq0]; simp [wCallOp, hc, hx, ht]⟩
    | append =>
      have hmf : m = false := hm.resolve_right (by simp [isMut, ho, hc])
      subst hmf
      by_cases hshape : ∃ d x y t t' e, o.dst = some d ∧ c.args.toList = [x, y] ∧ c.argTypes.toList = [t, t'] ∧ tElem S.C.P t = some e
      · obtain ⟨d, x, y, t, t', e, hd, hx, ht, he⟩ := hshape
        have hxm : x ∈ o.op.operands := hargs x (by rw [hx]; simp)
        have hym : y ∈ o.op.operands := hargs y (by rw [hx]; simp)
        refine ⟨fun ev K => t' = t ∧ (tZero S.C.P e).map List.length = some (S.C.P.cellsOf e) ∧ vAppend S d e (ev x) (ev y) K, fun ev => good_and (good_and (good_append ..)), fun ev ev' h => by rw [h x hxm, h y hym], fun σ k => ?_⟩
        rw [eq0]
        simp only [wCallOp, hc, hd, hx, ht, he, vAppend_eq]
      · refine ⟨fun _ _ => False, fun _ => good_false, fun _ _ _ => rfl, fun σ k => ?_⟩
        rw [eq0]
        simp only [wCallOp, hc, iff_false]
        intro h
        split at h
        · rename_i d x y t t' hd hx ht
          split at h
          · rename_i e he
            exact hshape ⟨d, x, y, t, t', e, hd, hx, ht, he⟩
          · exact h
        · exact h
    | max =>
      by_cases hx : ∃ x y, c.args.toList = [x, y]
      · obtain ⟨x, y, hx⟩ := hx
        have hxm : x ∈ o.op.operands := hargs x (by rw [hx]; simp)
        have hym : y ∈ o.op.operands := hargs y (by rw [hx]; simp)
        exact ⟨fun ev K => wMinMax true [ev x, ev y] (fun v => K (.one (.d v))), fun ev => good_map _ (good_minmax ..), fun ev ev' h => by rw [h x hxm, h y hym], fun σ k => by rw [eq0]; simp only [wCallOp, hc, hx]⟩
      · refine ⟨fun _ _ => False, fun _ => good_false, fun _ _ _ => rfl, fun σ k => ?_⟩
        rw [eq0]
        simp only [wCallOp, hc, iff_false]
        intro h
        split at h
        · rename_i x y hq; exact hx ⟨x, y, hq⟩
        · exact h
    | min =>
      by_cases hx : ∃ x y, c.args.toList = [x, y]
      · obtain ⟨x, y, hx⟩ := hx
        have hxm : x ∈ o.op.operands := hargs x (by rw [hx]; simp)
        have hym : y ∈ o.op.operands := hargs y (by rw [hx]; simp)
        exact ⟨fun ev K => wMinMax false [ev x, ev y] (fun v => K (.one (.d v))), fun ev => good_map _ (good_minmax ..), fun ev ev' h => by rw [h x hxm, h y hym], fun σ k => by rw [eq0]; simp only [wCallOp, hc, hx]⟩
      · refine ⟨fun _ _ => False, fun _ => good_false, fun _ _ _ => rfl, fun σ k => ?_⟩
        rw [eq0]
        simp only [wCallOp, hc, iff_false]
        intro h
        split at h
        · rename_i x y hq; exact hx ⟨x, y, hq⟩
        · exact h
    | _ => exact ⟨fun _ _ => False, fun _ => good_false, fun _ _ _ => rfl, fun σ k => by rw [eq0]; simp [wCallOp, hc]⟩

theorem form {m : Bool} {o : Oper} (hm : m = false ∨ isMut o.op = false) : ∃ F, Form S m o F := by
  have nil0 : (∀ σ k, ¬ wOp S true m o σ k) → ∃ F, Form S m o F := fun h => ⟨fun _ _ => False, fun _ => good_false, fun _ _ _ => rfl, fun σ k => iff_of_false (h σ k) (fun h => h)⟩
  obtain ⟨dst, op, ty, pos, after, guard⟩ := o
  cases op with
  | move x => exact ⟨fun ev K => K (ev x), fun ev => good_pure _, fun ev ev' h => by rw [h x (by simp [Op.operands])], fun σ k => Iff.rfl⟩
  | assign x => exact ⟨fun ev K => K (ev x), fun ev => good_pure _, fun ev ev' h => by rw [h x (by simp [Op.operands])], fun σ k => Iff.rfl⟩
  | pick c a b =>
    exact ⟨fun ev K => wBool (ev c) fun t => K (pickA t (ev a) (ev b)), fun ev => good_bool _ (F := fun t K => K (pickA t (ev a) (ev b))) (fun _ => good_pure _),
      fun ev ev' h => by rw [h c (by simp [Op.operands]), h a (by simp [Op.operands]), h b (by simp [Op.operands])], fun σ k => Iff.rfl⟩
  | load t x => exact ⟨fun ev K => wLoad S t (ev x) K, fun ev => good_load .., fun ev ev' h => by rw [h x (by simp [Op.operands])], fun σ k => Iff.rfl⟩
  | store t x y =>
    have hmf : m = false := hm.resolve_right (by simp [isMut])
    subst hmf
    exact nil0 (fun σ k h => absurd h.1 (by simp))
  | fieldAddr s x f => exact ⟨fun ev K => wField S s (ev x) f K, fun ev => good_field .., fun ev ev' h => by rw [h x (by simp [Op.operands])], fun σ k => Iff.rfl⟩
  | indexAddr t x i => exact ⟨fun ev K => wIndexAddr S t (ev x) (ev i) K, fun ev => good_indexAddr .., fun ev ev' h => by rw [h x (by simp [Op.operands]), h i (by simp [Op.operands])], fun σ k => Iff.rfl⟩
  | index t x i =>
    refine ⟨fun ev K => match (generalizing := false) ev x, ev i, S.C.P.underlying t with
      | .one (.d (.str s)), .one (.d (.int _ n)), some .string => 0 ≤ n ∧ n < s.size ∧ K (.one (.d (.int .u8 (byteAt s n))))
      | _, _, _ => False, fun ev => ?_, fun ev ev' h => by rw [h x (by simp [Op.operands]), h i (by simp [Op.operands])], fun σ k => Iff.rfl⟩
    by_cases hq : ∃ s kd n, ev x = .one (.d (.str s)) ∧ ev i = .one (.d (.int kd n)) ∧ S.C.P.underlying t = some .string
    · obtain ⟨s, kd, n, h1, h2, h3⟩ := hq
      simp only [h1, h2, h3]
      exact good_and (good_and (good_pure _))
    · refine good_congr good_false (fun K => iff_of_false ?_ (fun h => h))
      intro h
      split at h
      · rename_i s kd n h1 h2 h3; exact hq ⟨s, kd, n, h1, h2, h3⟩
      · exact h
  | field t x f =>
    refine ⟨fun ev K => match (generalizing := false) tOff S.C.P t f, ev x with
      | some (off, ft), .agg ls => wPart S ft ls off K
      | _, _ => False, fun ev => ?_, fun ev ev' h => by rw [h x (by simp [Op.operands])], fun σ k => Iff.rfl⟩
    cases tOff S.C.P t f with
    | none => exact good_false
    | some p =>
      obtain ⟨off, ft⟩ := p
      cases ev x with
      | agg ls => exact good_part ..
      | _ => exact good_false
  | binOp op t x y rt => exact ⟨fun ev K => wBin S op t x y (ev x) (ev y) (fun v => K (.one (.d v))), fun ev => good_map _ (good_bin ..), fun ev ev' h => by rw [h x (by simp [Op.operands]), h y (by simp [Op.operands])], fun σ k => Iff.rfl⟩
  | unOp op t x =>
    refine ⟨fun ev K => match (generalizing := false) op, ev x with
      | .not, .one (.d (.bool b)) => K (.one (.d (.bool (!b))))
      | .neg, .one (.d (.int kd n)) => K (.one (.d (.int kd (kd.wrap (0 - n)))))
      | _, _ => False, fun ev => ?_, fun ev ev' h => by rw [h x (by simp [Op.operands])], fun σ k => Iff.rfl⟩
    cases op <;> (try exact good_false) <;> (cases ev x with
      | one l =>
        cases l with
        | d z => cases z <;> first | exact good_pure _ | exact good_false
        | _ => exact good_false
      | _ => exact good_false)
  | convert src dst x => exact ⟨fun ev K => wConvert S src dst (ev x) (fun v => K (.one (.d v))), fun ev => good_map _ (good_convert ..), fun ev ev' h => by rw [h x (by simp [Op.operands])], fun σ k => Iff.rfl⟩
  | extract x i =>
    refine ⟨fun ev K => match (generalizing := false) ev x with
      | .tup vs => match (generalizing := false) vs[i]? with | some v => K v | none => False
      | _ => False, fun ev => ?_, fun ev ev' h => by rw [h x (by simp [Op.operands])], fun σ k => ?_⟩
    · cases ev x with
      | tup vs =>
        dsimp only
        cases vs[i]? with
        | none => exact good_false
        | some v => exact good_pure _
      | _ => exact good_false
    · show (match σ.eval S.n x with | .tup vs => (match vs[i]? with | some v => wPut S dst v σ k | none => False) | _ => False) ↔ _
      dsimp only
      cases σ.eval S.n x with
      | tup vs => dsimp only; cases vs[i]? <;> exact Iff.rfl
      | _ => exact Iff.rfl
  | nilCheck x =>
    refine ⟨fun ev K => match (generalizing := false) ev x with
      | .one (.ptr g off c) => K (.one (.ptr g off c))
      | .one (.eptr g t xs i off) => K (.one (.eptr g t xs i off))
      | .one (.dptr c off) => K (.one (.dptr c off))
      | _ => False, fun ev => ?_, fun ev ev' h => by rw [h x (by simp [Op.operands])], fun σ k => Iff.rfl⟩
    cases ev x with
    | one l => cases l <;> first | exact good_pure _ | exact good_false
    | _ => exact good_false
  | makeFunc fn first captured =>
    cases fn with
    | func f =>
      refine ⟨fun ev K => first = #[] ∧ match (generalizing := false) capsOf ev captured.toList with
        | some ls => K (.one (.clo f ls))
        | none => False, fun ev => good_and ?_, fun ev ev' h => ?_, fun σ k => ?_⟩
      · cases capsOf ev captured.toList with
        | none => exact good_false
        | some ls => exact good_pure _
      · rw [capsOf_congr captured.toList (fun x hx => h x (by simp only [Op.operands]; exact Array.mem_append.2 (.inr (by simpa using hx))))]
      · simp only [wOp]
        refine and_congr_right fun _ => ?_
        cases capsOf (σ.eval S.n) captured.toList <;> exact Iff.rfl
    | _ => exact nil0 (fun σ k h => h)
  | box t x =>
    refine ⟨fun ev K => match (generalizing := false) dst, (ev x).leaves with
      | some d, some ls => K (.one (.ptr (.loc d .nil) 0 ls))
      | _, _ => False, fun ev => ?_, fun ev ev' h => by rw [h x (by simp [Op.operands])], fun σ k => ?_⟩
    · cases dst with
      | none => exact good_false
      | some d => cases (ev x).leaves with
        | none => exact good_false
        | some ls => exact good_pure _
    · simp only [wOp]
      cases dst with
      | none => exact Iff.rfl
      | some d => cases (σ.eval S.n x).leaves <;> exact Iff.rfl
  | alloc t =>
    refine ⟨fun ev K => match (generalizing := false) dst, (tZero S.C.P t).bind zeroL with
      | some d, some ds => K (.one (.ptr (.loc d .nil) 0 (ds.map .d)))
      | _, _ => False, fun ev => ?_, fun ev ev' h => rfl, fun σ k => ?_⟩
    · cases dst with
      | none => exact good_false
      | some d => cases (tZero S.C.P t).bind zeroL with
        | none => exact good_false
        | some ls => exact good_pure _
    · simp only [wOp]
      cases dst with
      | none => exact Iff.rfl
      | some d => cases (tZero S.C.P t).bind zeroL <;> exact Iff.rfl
  | build t parts =>
    refine ⟨fun ev K => match (generalizing := false) tPlaces S.C.P t, (tZero S.C.P t).bind zeroL with
      | true, some ds => match (generalizing := false) wParts S t ev parts.toList (ds.map .d) with
        | some ls => K (.agg ls)
        | none => False
      | _, _ => False, fun ev => ?_, fun ev ev' h => ?_, fun σ k => ?_⟩
    · cases tPlaces S.C.P t with
      | false => exact good_false
      | true => cases (tZero S.C.P t).bind zeroL with
        | none => exact good_false
        | some ds =>
          dsimp only
          cases wParts S t ev parts.toList (ds.map .d) with
          | none => exact good_false
          | some ls => exact good_pure _
    · have : ∀ ls, wParts S t ev parts.toList ls = wParts S t ev' parts.toList ls := fun ls => wParts_congr _ _ (fun p hp => h _ (parts_mem hp))
      simp only [this]
    · simp only [wOp]
      cases tPlaces S.C.P t with
      | false => exact Iff.rfl
      | true => cases (tZero S.C.P t).bind zeroL with
        | none => exact Iff.rfl
        | some ds =>
          dsimp only
          cases wParts S t (σ.eval S.n) parts.toList (ds.map .d) <;> exact Iff.rfl
  | buildSlice t len parts =>
    refine ⟨fun ev K => match (generalizing := false) dst, tElem S.C.P t with
      | some d, some e => match (generalizing := false) (tZero S.C.P e).bind (zeroR S.C.P e) with
        | some z => (z.length = S.C.P.cellsOf e ∧ S.C.P.cellsOf e ≠ 0 ∧ len * S.C.P.cellsOf e ≤ 65536) ∧ match (generalizing := false) wRows S (S.C.P.cellsOf e) ev parts.toList (List.replicate len z) [] with
          | some (xs, T) => if len = 0 then K (.one (.own (.loc d .nil) e [])) else if T = [] then K (.one (.own (.loc d .nil) e xs)) else False
          | none => False
        | none => False
      | _, _ => False, fun ev => ?_, fun ev ev' h => ?_, fun σ k => ?_⟩
    · cases dst with
      | none => exact good_false
      | some d => cases tElem S.C.P t with
        | none => exact good_false
        | some e =>
          dsimp only
          cases (tZero S.C.P e).bind (zeroR S.C.P e) with
          | none => exact good_false
          | some z =>
            refine good_and ?_
            cases wRows S (S.C.P.cellsOf e) ev parts.toList (List.replicate len z) [] with
            | none => exact good_false
            | some p =>
              obtain ⟨xs, T⟩ := p
              dsimp only
              by_cases h1 : len = 0
              · simp only [h1, if_true]; exact good_pure _
              · by_cases h2 : T = []
                · simp only [h1, h2, if_true, if_false]; exact good_pure _
                · simp only [h1, h2, if_false]; exact good_false
    · have : ∀ sz xs T, wRows S sz ev parts.toList xs T = wRows S sz ev' parts.toList xs T := fun sz xs T => wRows_congr _ _ _ (fun p hp => h _ (parts_mem hp))
      simp only [this]
    · simp only [wOp]
      cases dst with
      | none => exact Iff.rfl
      | some d =>
        cases tElem S.C.P t with
        | none => exact Iff.rfl
        | some e =>
          dsimp only
          cases (tZero S.C.P e).bind (zeroR S.C.P e) with
          | none => exact Iff.rfl
          | some z =>
            simp only [and_assoc]
            refine and_congr_right fun _ => and_congr_right fun _ => and_congr_right fun _ => ?_
            cases wRows S (S.C.P.cellsOf e) (σ.eval S.n) parts.toList (List.replicate len z) [] with
            | none => exact Iff.rfl
            | some p =>
              obtain ⟨xs, T⟩ := p
              dsimp only
              by_cases h1 : len = 0
              · simp only [h1, if_true]
              · by_cases h2 : T = []
                · simp only [h1, h2, if_true, if_false]
                · simp [h1, h2]
  | makeSlice t len cap =>
    refine ⟨fun ev K => match (generalizing := false) dst, tElem S.C.P t, ev len, ev cap with
      | some d, some e, .one (.d (.int _ m)), .one (.d (.int _ n)) => match (generalizing := false) (tZero S.C.P e).bind (zeroR S.C.P e) with
        | some z => (z.length = S.C.P.cellsOf e ∧ m = n ∧ 0 ≤ n ∧ n ≤ maxMade ∧ S.C.P.bytesOf e ≤ 65536 ∧ S.C.P.cellsOf e ≠ 0) ∧ K (.one (.own (.loc d .nil) e (List.replicate n.toNat z)))
        | none => False
      | _, _, _, _ => False, fun ev => ?_, fun ev ev' h => by rw [h len (by simp [Op.operands]), h cap (by simp [Op.operands])], fun σ k => ?_⟩
    · by_cases hq : ∃ d e k1 m k2 n, dst = some d ∧ tElem S.C.P t = some e ∧ ev len = .one (.d (.int k1 m)) ∧ ev cap = .one (.d (.int k2 n))
      · obtain ⟨d, e, k1, m, k2, n, h1, h2, h3, h4⟩ := hq
        simp only [h1, h2, h3, h4]
        cases (tZero S.C.P e).bind (zeroR S.C.P e) with
        | none => exact good_false
        | some z => exact good_and (good_pure _)
      · refine good_congr good_false (fun K => iff_of_false ?_ (fun h => h))
        intro h
        split at h
        · rename_i h2 h3 h4; exact hq ⟨_, _, _, _, _, _, rfl, h2, h3, h4⟩
        · exact h
    · simp only [wOp]
      cases dst with
      | none => exact Iff.rfl
      | some d =>
        by_cases hq : ∃ e k1 m k2 n, tElem S.C.P t = some e ∧ σ.eval S.n len = .one (.d (.int k1 m)) ∧ σ.eval S.n cap = .one (.d (.int k2 n))
        · obtain ⟨e, k1, m, k2, n, h2, h3, h4⟩ := hq
          simp only [h2, h3, h4]
          cases (tZero S.C.P e).bind (zeroR S.C.P e) with
          | none => exact Iff.rfl
          | some z => simp only [and_assoc]
        · refine iff_of_false (fun h => ?_) (fun h => ?_)
          · split at h
            · rename_i h1 h2 h3 h4; cases h1; exact hq ⟨_, _, _, _, _, h2, h3, h4⟩
            · exact h
          · split at h
            · rename_i h1 h2 h3 h4; cases h1; exact hq ⟨_, _, _, _, _, h2, h3, h4⟩
            · exact h
  | slice t x lo hi mx =>
    cases mx with
    | some _ => exact nil0 (fun σ k h => h)
    | none =>
      refine ⟨fun ev K => vSlice S t (ev x) (lo.map ev) (hi.map ev) K, fun ev => good_slice .., fun ev ev' h => ?_, fun σ k => by simp only [wOp]; exact vSlice_eq S t _ _ _ σ _⟩
      have h1 : lo.map ev = lo.map ev' := by
        cases lo with
        | none => rfl
        | some y => simp only [Option.map_some]; rw [h y (by simp [Op.operands])]
      have h2 : hi.map ev = hi.map ev' := by
        cases hi with
        | none => rfl
        | some y => simp only [Option.map_some]; rw [h y (by simp [Op.operands])]
      rw [h x (by simp [Op.operands]), h1, h2]
  | call c => exact form_call rfl hm
  | _ => exact nil0 (fun σ k h => h)
end
end Go.VS
namespace Go.VS
open Go Go.RowKit
set_option linter.unusedVariables false
set_option linter.unusedSimpArgs false

def Env.eqv (σ σ' : Env) : Prop := ∀ t, σ.get t = σ'.get t
def putE (dst : Option Tmp) (v : AV) (σ : Env) : Env := match dst with | some d => (d, v) :: σ | none => σ
def dOk (S : Sys) (dst : Option Tmp) : Prop := match dst with | some d => d < S.n | none => True
theorem wPut_iff {S : Sys} {dst : Option Tmp} {v : AV} {σ : Env} {k : Env → Prop} : wPut S dst v σ k ↔ dOk S dst ∧ k (putE dst v σ) := by
  cases dst with
  | none => simp [wPut, dOk, putE]
  | some d => simp [wPut, dOk, putE]
abbrev Wr := Option (Tag × UI)
def Wr.fn : Wr → LV → LV
  | none => id
  | some (g, u) => ufun (single g u)
def upO (p : Wr) (σ : Env) : Env := match p with | none => σ | some (g, u) => σ.up (ufun (single g u))
def Env.ev (σ : Env) (n : Nat) (x : Operand) : AV := σ.eval n x

structure GForm (S : Sys) (m : Bool) (ops : Array Oper) (o : Oper) (G : Env → (AV → Prop) → Prop) : Prop where
  good : ∀ σ, Good1 (G σ)
  deps : ∀ σ σ' : Env, (∀ t, t ∈ o.looksAt ops → σ.get t = σ'.get t) → G σ = G σ'
  eq : ∀ σ k, wGuard S true m ops.toList o σ k ↔ G σ (fun v => wPut S o.dst v σ k)
structure MForm (S : Sys) (m : Bool) (ops : Array Oper) (o : Oper) (G : Env → (AV × Wr → Prop) → Prop) : Prop where
  good : ∀ σ, Good1 (G σ)
  deps : ∀ σ σ' : Env, (∀ t, t ∈ o.looksAt ops → σ.get t = σ'.get t) → G σ = G σ'
  eq : ∀ σ k, wGuard S true m ops.toList o σ k ↔ G σ (fun p => wPut S o.dst p.1 (upO p.2 σ) k)

section
variable {S : Sys} {ops : Array Oper}

theorem eval_deps {o : Oper} {σ σ' : Env} {n : Nat} (h : ∀ t, t ∈ o.looksAt ops → σ.get t = σ'.get t) : ∀ x, x ∈ o.op.operands → σ.eval n x = σ'.eval n x := by
  intro x hx
  cases x with
  | tmp t =>
    have : t ∈ o.looksAt ops := by
      unfold Oper.looksAt
      refine List.mem_append.2 (.inl (List.mem_filterMap.2 ⟨.tmp t, by simpa using hx, rfl⟩))
    simp only [Env.eval, h t this]
  | _ => rfl
theorem guard_slot {o : Oper} {j : Nat} {want : Bool} {t : Nat} (hg : o.guard = some (j, want)) (ht : guardSlot ops.toList j = some t) : t ∈ o.looksAt ops := by
  unfold Oper.looksAt
  refine List.mem_append.2 (.inr ?_)
  simp only [hg]
  have : (ops[j]?).bind (·.dst) = some t := by simpa [guardSlot] using ht
  rw [this]
  simp

theorem good_skip {α : Type} (a : AV) (want : Bool) {p q : (α → Prop) → Prop} (hp : Good1 p) (hq : Good1 q) : Good1 (fun K => wSkip a want (p K) (q K)) := by
  unfold wSkip
  split
  · rename_i b
    by_cases hb : b = want
    · have hn : ¬ b = !want := by rw [hb]; cases want <;> simp
      exact good_congr hp (fun K => ⟨fun h => h.1 hb, fun h => ⟨fun _ => h, fun h' => absurd h' hn⟩⟩)
    · have hn : b = !want := by cases b <;> cases want <;> simp at hb ⊢
      exact good_congr hq (fun K => ⟨fun h => h.2 hn, fun h => ⟨fun h' => absurd h' hb, fun _ => h⟩⟩)
  · exact hq
  · exact good_false
/-- From the operation to the operation with its guard. -/
theorem with_guard {α : Type} {m : Bool} {o : Oper} {F : (Operand → AV) → (α → Prop) → Prop} {T : Env → (Env → Prop) → α → Prop} {top : α} (hgood : ∀ ev, Good1 (F ev)) (hdeps : ∀ ev ev' : Operand → AV, (∀ x, x ∈ o.op.operands → ev x = ev' x) → F ev = F ev')
    (heq : ∀ σ k, wOp S true m o σ k ↔ F (σ.eval S.n) (T σ k)) (htop : ∀ σ k, wPut S o.dst (.tup []) σ k ↔ T σ k top) :
    ∃ G : Env → (α → Prop) → Prop, (∀ σ, Good1 (G σ)) ∧ (∀ σ σ' : Env, (∀ t, t ∈ o.looksAt ops → σ.get t = σ'.get t) → G σ = G σ') ∧ ∀ σ k, wGuard S true m ops.toList o σ k ↔ G σ (T σ k) := by
  cases hg : o.guard with
  | none => exact ⟨fun σ K => F (σ.eval S.n) K, fun σ => hgood _, fun σ σ' h => by dsimp only; rw [hdeps _ _ (eval_deps h)], fun σ k => by simp only [wGuard, hg]; exact heq σ k⟩
  | some p =>
    obtain ⟨j, want⟩ := p
    cases ht : guardSlot ops.toList j with
    | none => exact ⟨fun _ _ => False, fun _ => good_false, fun _ _ _ => rfl, fun σ k => by simp only [wGuard, hg, ht]⟩
    | some t =>
      refine ⟨fun σ K => t < S.n ∧ wSkip (σ.get t) want (F (σ.eval S.n) K) (K top), fun σ => good_and (good_skip _ _ (hgood _) (good_pure top)), fun σ σ' h => ?_, fun σ k => ?_⟩
      · dsimp only; rw [hdeps _ _ (eval_deps h), h t (guard_slot hg ht)]
      · simp only [wGuard, hg, ht, heq, htop]

theorem gform {m : Bool} {o : Oper} (hm : m = false ∨ isMut o.op = false) : ∃ G, GForm S m ops o G := by
  obtain ⟨F, hF⟩ := form (S := S) hm
  obtain ⟨G, h1, h2, h3⟩ := with_guard (ops := ops) (T := fun σ k v => wPut S o.dst v σ k) (top := .tup []) hF.good hF.deps hF.eq (fun σ k => Iff.rfl)
  exact ⟨G, h1, h2, h3⟩

theorem GForm.toM {m : Bool} {o : Oper} {G : Env → (AV → Prop) → Prop} (h : GForm S m ops o G) : MForm S m ops o (fun σ K => G σ (fun v => K (v, none))) :=
  ⟨fun σ => good_map _ (h.good σ), fun σ σ' hd => by rw [h.deps σ σ' hd], fun σ k => h.eq σ k⟩

/-- The writes. -/
theorem form_mut {o : Oper} (hm : isMut o.op = true) : ∃ F : (Operand → AV) → (AV × Wr → Prop) → Prop, (∀ ev, Good1 (F ev)) ∧ (∀ ev ev' : Operand → AV, (∀ x, x ∈ o.op.operands → ev x = ev' x) → F ev = F ev') ∧
    ∀ σ k, wOp S true true o σ k ↔ F (σ.eval S.n) (fun p => wPut S o.dst p.1 (upO p.2 σ) k) := by
  obtain ⟨dst, op, ty, pos, after, guard⟩ := o
  unfold isMut at hm
  split at hm
  · rename_i t x y ho
    simp only at ho
    subst ho
    refine ⟨fun ev K => dst = none ∧ match (generalizing := false) (ev y).leaves with
      | none => False
      | some ls => S.C.P.cellsOf t ≠ 0 ∧ match (generalizing := false) ev x with
        | .one (.ptr g off c) => (ls.length = S.C.P.cellsOf t ∧ off + ls.length ≤ c.length ∧ LV.noTags g ls = true) ∧ K (.one .top, some (g, .cells off ls))
        | .one (.eptr g t' xs i off) => match (generalizing := false) LV.flats? ls with
          | none => False
          | some ds => (ds.length = S.C.P.cellsOf t ∧ off + ds.length ≤ S.C.P.cellsOf t') ∧ K (.one .top, some (g, .row i off ds))
        | _ => False, fun ev => good_and ?_, fun ev ev' h => by dsimp only; rw [h x (by simp [Op.operands]), h y (by simp [Op.operands])], fun σ k => ?_⟩
    · cases (ev y).leaves with
      | none => exact good_false
      | some ls =>
        refine good_and ?_
        cases ev x with
        | one l =>
          cases l with
          | ptr g off c => exact good_and (good_pure _)
          | eptr g t' xs i off =>
            dsimp only
            cases LV.flats? ls with
            | none => exact good_false
            | some ds => exact good_and (good_pure _)
          | _ => exact good_false
        | _ => exact good_false
    · simp only [wOp, true_and]
      refine and_congr_right fun hd => ?_
      subst hd
      unfold wStore
      cases (σ.eval S.n y).leaves with
      | none => exact Iff.rfl
      | some ls =>
        dsimp only
        refine and_congr_right fun _ => ?_
        cases σ.eval S.n x with
        | one l =>
          cases l with
          | ptr g off c => simp only [wPut, upO, and_assoc]
          | eptr g t' xs i off =>
            dsimp only
            cases LV.flats? ls with
            | none => exact Iff.rfl
            | some ds => simp only [wPut, upO, and_assoc]
          | _ => exact Iff.rfl
        | _ => exact Iff.rfl
  · rename_i c ho
    simp only at ho
    subst ho
    split at hm
    · rename_i hc
      have hargs : ∀ x, x ∈ c.args.toList → x ∈ (Op.call c).operands := fun x hx => by
        simp only [Op.operands, Call.operands]
        exact Array.mem_append.2 (.inr (by simpa using hx))
      by_cases hshape : ∃ d x y t t' e, dst = some d ∧ c.args.toList = [x, y] ∧ c.argTypes.toList = [t, t'] ∧ tElem S.C.P t = some e
      · obtain ⟨d, x, y, t, t', e, hd, hx, ht, he⟩ := hshape
        subst hd
        have hxm : x ∈ (Op.call c).operands := hargs x (by rw [hx]; simp)
        have hym : y ∈ (Op.call c).operands := hargs y (by rw [hx]; simp)
        have eq0 : ∀ σ k, wOp S true true { dst := some d, op := .call c, type := ty, pos := pos, after := after, guard := guard } σ k ↔ t' = t ∧ (tZero S.C.P e).map List.length = some (S.C.P.cellsOf e) ∧ wAppend S true d e (σ.eval S.n x) (σ.eval S.n y) σ fun v σ' => wPut S (some d) v σ' k := by
          intro σ k
          simp only [wOp, wCallOp, hc, hx, ht, he]
        refine ⟨fun ev K => t' = t ∧ (tZero S.C.P e).map List.length = some (S.C.P.cellsOf e) ∧ match (generalizing := false) ev y with
          | .one lb => match (generalizing := false) lb.rows? S.C.P with
            | none => False
            | some (e', ys, _) => ((ys = [] ∨ e' = S.C.P.cellsOf e) ∧ S.C.P.cellsOf e ≠ 0 ∧ S.C.P.bytesOf e ≤ 65536) ∧
              match (generalizing := false) ev x with
              | .one (.own g t xs) => (t = e ∧ xs.length + ys.length ≤ maxMade) ∧
                  if g.isVar then (ys = [] → K (.one (.own (.var d) e []), none)) ∧ (¬ ys = [] → K (.one (.own (.loc d .nil) e ys), none))
                  else K (.one (.own (.loc d .nil) e (xs ++ ys)), some (g, .dead))
              | .one (.d .nil) => ys.length ≤ maxMade ∧ (ys = [] → K (.one (.own (.var d) e []), none)) ∧ (¬ ys = [] → K (.one (.own (.loc d .nil) e ys), none))
              | _ => False
          | _ => False, fun ev => good_and (good_and ?_), fun ev ev' h => by dsimp only; rw [h x hxm, h y hym], fun σ k => ?_⟩
        · cases ev y with
          | one lb =>
            dsimp only
            cases lb.rows? S.C.P with
            | none => exact good_false
            | some p =>
              obtain ⟨e', ys, L⟩ := p
              refine good_and ?_
              cases ev x with
              | one la =>
                cases la with
                | own g t xs =>
                  refine good_and ?_
                  cases hg : g.isVar with
                  | true => simp only [hg, if_true]; exact good_ite (good_pure _) (good_pure _)
                  | false => simp only [hg, Bool.false_eq_true, if_false]; exact good_pure _
                | d z => cases z <;> first | exact good_and (good_ite (good_pure _) (good_pure _)) | exact good_false
                | _ => exact good_false
              | _ => exact good_false
          | _ => exact good_false
        · rw [eq0]
          refine and_congr_right fun _ => and_congr_right fun _ => ?_
          unfold wAppend
          cases σ.eval S.n y with
          | one lb =>
            dsimp only
            cases lb.rows? S.C.P with
            | none => exact Iff.rfl
            | some p =>
              obtain ⟨e', ys, L⟩ := p
              simp only [and_assoc]
              refine and_congr_right fun _ => and_congr_right fun _ => and_congr_right fun _ => ?_
              cases σ.eval S.n x with
              | one la =>
                cases la with
                | own g t xs =>
                  simp only [and_assoc]
                  refine and_congr_right fun _ => and_congr_right fun _ => ?_
                  cases hg : g.isVar with
                  | true => simp only [if_true]; exact Iff.rfl
                  | false => simp only [Bool.false_eq_true, if_false, true_and]; exact Iff.rfl
                | d z => cases z <;> exact Iff.rfl
                | _ => exact Iff.rfl
              | _ => exact Iff.rfl
          | _ => exact Iff.rfl
      · refine ⟨fun _ _ => False, fun _ => good_false, fun _ _ _ => rfl, fun σ k => ?_⟩
        simp only [wOp, wCallOp, hc, iff_false]
        intro h
        split at h
        · rename_i d x y t t' hd hx ht
          split at h
          · rename_i e he
            exact hshape ⟨_, _, _, _, _, _, rfl, ‹_›, ‹_›, he⟩
          · exact h
        · exact h
    · cases hm
  · cases hm

theorem mform (m : Bool) (o : Oper) : ∃ G, MForm S m ops o G := by
  by_cases hm : m = false ∨ isMut o.op = false
  · obtain ⟨G, hG⟩ := gform (S := S) (ops := ops) hm
    exact ⟨_, hG.toM⟩
  · have h1 : m = true := by cases m <;> simp at hm ⊢
    have h2 : isMut o.op = true := by cases hq : isMut o.op <;> simp [hq] at hm ⊢
    subst h1
    obtain ⟨F, f1, f2, f3⟩ := form_mut (S := S) h2
    obtain ⟨G, g1, g2, g3⟩ := with_guard (ops := ops) (T := fun σ k p => wPut S o.dst p.1 (upO p.2 σ) k) (top := (.tup [], none)) f1 f2 f3 (fun σ k => Iff.rfl)
    exact ⟨G, g1, g2, g3⟩
end
end Go.VS
namespace Go.VS
open Go Go.RowKit
set_option linter.unusedVariables false
set_option linter.unusedSimpArgs false

def Ext (k : Env → Prop) : Prop := ∀ σ σ' : Env, σ.eqv σ' → k σ → k σ'

theorem upO_eqv {σ σ' : Env} (h : σ.eqv σ') (p : Wr) : (upO p σ).eqv (upO p σ') := by
  intro t
  cases p with
  | none => exact h t
  | some q => obtain ⟨g, u⟩ := q; simp only [upO, Env.get_up, h t]
theorem putE_eqv {σ σ' : Env} (h : σ.eqv σ') (dst : Option Tmp) (v : AV) : (putE dst v σ).eqv (putE dst v σ') := by
  intro t
  cases dst with
  | none => exact h t
  | some d =>
    simp only [putE, Env.get]
    split
    · rfl
    · exact h t
theorem putE_comm {d d' : Option Tmp} (hne : ∀ x, d = some x → d' ≠ some x) (v v' : AV) (σ : Env) : (putE d v (putE d' v' σ)).eqv (putE d' v' (putE d v σ)) := by
  intro t
  cases d with
  | none => cases d' <;> rfl
  | some x =>
    cases d' with
    | none => rfl
    | some y =>
      have hxy : x ≠ y := fun e => hne x rfl (by rw [e])
      simp only [putE, Env.get]
      by_cases h1 : x = t
      · subst h1
        have hyx : ¬ y = x := fun e => hxy e.symm
        simp [hyx]
      · by_cases h2 : y = t
        · subst h2; simp [h1]
        · simp [h1, h2]
theorem putE_up (d : Option Tmp) (v : AV) (φ : LV → LV) (σ : Env) : (putE d v σ).up φ = putE d (v.up φ) (σ.up φ) := by
  cases d <;> rfl
theorem putE_get {d : Option Tmp} {v : AV} {σ : Env} {t : Nat} (h : d ≠ some t) : (putE d v σ).get t = σ.get t := by
  cases d with
  | none => rfl
  | some x =>
    have : x ≠ t := fun e => h (by rw [e])
    simp [putE, Env.get, this]
theorem good_some {α : Type} {F : (α → Prop) → Prop} (hF : Good1 F) {K : α → Prop} (h : F K) : ∃ v, K v := by
  obtain ⟨D, V, h1, h2⟩ := hF
  rw [h1] at h
  obtain ⟨v, hv⟩ := h2 h.1
  exact ⟨v, h.2 v hv⟩

section
variable {S : Sys} {ops : Array Oper}

theorem wGuard_mono {m : Bool} {o : Oper} {σ : Env} {k k' : Env → Prop} (hk : ∀ σ, k σ → k' σ) (h : wGuard S true m ops.toList o σ k) : wGuard S true m ops.toList o σ k' := by
  obtain ⟨G, hG⟩ := mform (S := S) (ops := ops) m o
  rw [hG.eq] at h ⊢
  exact good_mono (hG.good σ) h (fun p hp => by rw [wPut_iff] at hp ⊢; exact ⟨hp.1, hk _ hp.2⟩)
theorem wGuard_ext {m : Bool} {o : Oper} {k : Env → Prop} (hk : Ext k) : Ext (fun σ => wGuard S true m ops.toList o σ k) := by
  intro σ σ' he h
  obtain ⟨G, hG⟩ := mform (S := S) (ops := ops) m o
  simp only [hG.eq] at h ⊢
  rw [← hG.deps σ σ' (fun t _ => he t)]
  exact good_mono (hG.good σ) h (fun p hp => by rw [wPut_iff] at hp ⊢; exact ⟨hp.1, hk _ _ (putE_eqv (upO_eqv he p.2) _ _) hp.2⟩)

/-- The operations with these numbers. -/
def wIdx (S : Sys) (m : Nat → Bool) (ops : Array Oper) : List Nat → Env → (Env → Prop) → Prop
  | [], σ, k => k σ
  | i :: r, σ, k => match ops[i]? with
    | none => wIdx S m ops r σ k
    | some o => wGuard S true (m i) ops.toList o σ fun σ' => wIdx S m ops r σ' k
theorem wIdx_ext {m : Nat → Bool} {k : Env → Prop} (hk : Ext k) : ∀ r, Ext (fun σ => wIdx S m ops r σ k)
  | [] => hk
  | i :: r => by
    intro σ σ' he h
    simp only [wIdx] at h ⊢
    split
    · rename_i h0; rw [h0] at h; exact wIdx_ext hk r σ σ' he h
    · rename_i o h0; rw [h0] at h; exact wGuard_ext (wIdx_ext hk r) σ σ' he h
theorem wOps_idx {m : Nat → Bool} {k : Env → Prop} : ∀ (rest l : List Oper) (σ : Env), ops.toList = l ++ rest → wOps S true m ops.toList l.length rest σ k → wIdx S m ops (List.range' l.length rest.length) σ k
  | [], l, σ, he, h => h
  | o :: r, l, σ, he, h => by
    have h0 : ops[l.length]? = some o := by
      have : ops.toList[l.length]? = some o := by rw [he]; simp
      simpa using this
    simp only [List.length_cons, List.range'_succ, wIdx, h0]
    refine wGuard_mono (fun σ' hσ => ?_) h
    have := wOps_idx r (l ++ [o]) σ' (by rw [he]; simp) (by simpa using hσ)
    simpa using this

/-- Two that only give values, and do not look at one another's. -/
theorem swap_plain {oi oj : Oper} {mi mj : Bool} (hap : oj.apart ops oi = true) (hi : mi = false ∨ isMut oi.op = false) (hj : mj = false ∨ isMut oj.op = false) {σ : Env} {k : Env → Prop} (hk : Ext k)
    (h : wGuard S true mj ops.toList oj σ fun σ1 => wGuard S true mi ops.toList oi σ1 k) : wGuard S true mi ops.toList oi σ fun σ1 => wGuard S true mj ops.toList oj σ1 k := by
  obtain ⟨a1, a2, a3⟩ := Oper.apart_spec hap
  obtain ⟨F, hF⟩ := gform (S := S) (ops := ops) hj
  obtain ⟨G, hG⟩ := gform (S := S) (ops := ops) hi
  have dG : ∀ v, G (putE oj.dst v σ) = G σ := fun v => hG.deps _ _ (fun t ht => putE_get (fun e => a1 t e ht))
  have dF : ∀ u, F (putE oi.dst u σ) = F σ := fun u => hF.deps _ _ (fun t ht => putE_get (fun e => a3 t e ht))
  simp only [hF.eq, hG.eq, wPut_iff, dG] at h ⊢
  simp only [dF]
  have h2 := good_comm (hF.good σ) (G := fun K => dOk S oj.dst ∧ G σ K) (good_and (hG.good σ)) (K := fun v u => dOk S oi.dst ∧ k (putE oi.dst u (putE oj.dst v σ))) h
  refine good_mono (hG.good σ) h2.2 (fun u hu => ?_)
  obtain ⟨_, hd, _⟩ := good_some (hF.good σ) hu
  exact ⟨hd, good_mono (hF.good σ) hu (fun v hv => ⟨h2.1, hk _ _ (putE_comm (fun x hx e => a2 x e hx) u v σ) hv.2⟩)⟩

/-- Where a field lies. -/
def fieldV (S : Sys) (s : TypeId) (f : Nat) : AV → Option AV
  | .one (.ptr g off c) => match tOff S.C.P s f with | some (o, ft) => if S.C.P.cellsOf ft ≠ 0 then some (.one (.ptr g (off + o) c)) else none | none => none
  | .one (.dptr c off) => match tOff S.C.P s f with | some (o, ft) => if S.C.P.cellsOf ft ≠ 0 then some (.one (.dptr c (off + o))) else none | none => none
  | .one (.eptr g t xs i off) => match tOff S.C.P s f with | some (o, ft) => if S.C.P.cellsOf ft ≠ 0 then some (.one (.eptr g t xs i (off + o))) else none | none => none
  | _ => none
theorem wField_iff {s : TypeId} {f : Nat} {a : AV} {K : AV → Prop} : wField S s a f K ↔ ∃ v, fieldV S s f a = some v ∧ K v := by
  unfold wField fieldV
  cases tOff S.C.P s f with
  | none =>
    rcases a with l | ls | vs
    · cases l <;> simp
    · simp
    · simp
  | some p =>
    obtain ⟨o, ft⟩ := p
    rcases a with l | ls | vs
    · cases l <;> by_cases h : S.C.P.cellsOf ft = 0 <;> simp [h]
    · simp
    · simp
theorem fieldV_up {U : Tag → Option UI} {s : TypeId} {f : Nat} {a u : AV} (h : fieldV S s f (a.up (ufun U)) = some u) : ∃ v, fieldV S s f a = some v ∧ u = v.up (ufun U) := by
  rcases a with l | ls | vs
  · cases l with
    | ptr g off c =>
      simp only [AV.up, LV.up, ufun] at h
      cases hu : U g with
      | none =>
        simp only [hu, fieldV] at h
        split at h
        · rename_i o ft ho
          split at h
          · rename_i hc
            refine ⟨.one (.ptr g (off + o) c), by simp only [fieldV, ho]; rw [if_pos hc], ?_⟩
            simp only [Option.some.injEq] at h
            rw [← h]; simp only [AV.up, LV.up, ufun, hu]
          · cases h
        · cases h
      | some w =>
        cases w with
        | cells o' ls =>
          simp only [hu, fieldV] at h
          split at h
          · rename_i o ft ho
            split at h
            · rename_i hc
              refine ⟨.one (.ptr g (off + o) c), by simp only [fieldV, ho]; rw [if_pos hc], ?_⟩
              simp only [Option.some.injEq] at h
              rw [← h]; simp only [AV.up, LV.up, ufun, hu]
            · cases h
          · cases h
        | box c' =>
          simp only [hu, fieldV] at h
          split at h
          · rename_i o ft ho
            split at h
            · rename_i hc
              refine ⟨.one (.ptr g (off + o) c), by simp only [fieldV, ho]; rw [if_pos hc], ?_⟩
              simp only [Option.some.injEq] at h
              rw [← h]; simp only [AV.up, LV.up, ufun, hu]
            · cases h
          · cases h
        | _ => simp only [hu, fieldV] at h; cases h
    | dptr c off =>
      simp only [AV.up, LV.up] at h
      refine ⟨u, h, ?_⟩
      simp only [fieldV] at h
      split at h
      · split at h
        · simp only [Option.some.injEq] at h; rw [← h]; simp only [AV.up, LV.up]
        · cases h
      · cases h
    | eptr g t xs i off =>
      simp only [AV.up, LV.up, ufun] at h
      cases hu : U g with
      | none =>
        simp only [hu, fieldV] at h
        split at h
        · rename_i o ft ho
          split at h
          · rename_i hc
            refine ⟨.one (.eptr g t xs i (off + o)), by simp only [fieldV, ho]; rw [if_pos hc], ?_⟩
            simp only [Option.some.injEq] at h
            rw [← h]; simp only [AV.up, LV.up, ufun, hu]
          · cases h
        · cases h
      | some w =>
        cases w with
        | row i' o' ds =>
          simp only [hu, fieldV] at h
          split at h
          · rename_i o ft ho
            split at h
            · rename_i hc
              refine ⟨.one (.eptr g t xs i (off + o)), by simp only [fieldV, ho]; rw [if_pos hc], ?_⟩
              simp only [Option.some.injEq] at h
              rw [← h]; simp only [AV.up, LV.up, ufun, hu]
            · cases h
          · cases h
        | _ => simp only [hu, fieldV] at h; cases h
    | own g t xs =>
      simp only [AV.up, LV.up, ufun] at h
      cases hu : U g with
      | none => simp only [hu, fieldV] at h; cases h
      | some w => cases w <;> (simp only [hu, fieldV] at h; cases h)
    | obj g kk x =>
      simp only [AV.up, LV.up, ufun] at h
      cases hu : U g with
      | none => simp only [hu, fieldV] at h; cases h
      | some w => cases w <;> (simp only [hu, fieldV] at h; cases h)
    | _ => simp only [AV.up, LV.up, fieldV] at h; cases h
  · simp only [AV.up, fieldV] at h; cases h
  · simp only [AV.up, fieldV] at h; cases h

/-- What a move or a field's address gives. -/
def structV (S : Sys) (op : Op) (ev : Operand → AV) : Option AV :=
  match op with
  | .move x => some (ev x)
  | .fieldAddr s x f => fieldV S s f (ev x)
  | _ => none
theorem struct_eq {m : Bool} {o : Oper} (hs : structural o.op = true) (hg : o.guard = none) {σ : Env} {k : Env → Prop} : wGuard S true m ops.toList o σ k ↔ ∃ v, structV S o.op (σ.eval S.n) = some v ∧ wPut S o.dst v σ k := by
  simp only [wGuard, hg]
  unfold wOp
  unfold structural at hs
  split at hs
  · rename_i x ho; rw [ho]; simp [structV]
  · rename_i s x f ho; rw [ho]; simp only [wField_iff, structV]
  · cases hs
theorem constA_up {U : Tag → Option UI} (v : Value) : (constA v).up (ufun U) = constA v := by
  have one : ∀ v, (constL v).up (ufun U) = constL v := by
    intro v
    unfold constL
    split <;> simp [LV.up]
  unfold constA
  split
  · split
    · simp only [AV.up, LV.ups_eq, List.map_map]
      congr 1
      exact List.map_congr_left (fun v _ => one v)
    · simp [AV.up, LV.up]
  · simp only [AV.up, one]
theorem eval_up {U : Tag → Option UI} {σ : Env} {n : Nat} {x : Operand} : (σ.up (ufun U)).eval n x = (σ.eval n x).up (ufun U) := by
  cases x with
  | tmp t =>
    simp only [Env.eval, Env.get_up]
    split
    · rfl
    · simp [AV.up, LV.up]
  | const v => simp only [Env.eval, constA_up]
  | global g => simp [Env.eval, AV.up, LV.up]
  | func f => simp [Env.eval, AV.up, LV.up, LV.ups]

theorem eval_put {σ : Env} {n : Nat} {x : Operand} {d : Option Tmp} {v : AV} (h : ∀ t, x = .tmp t → d ≠ some t) : (putE d v σ).eval n x = σ.eval n x := by
  cases x with
  | tmp t => simp only [Env.eval, putE_get (h t rfl)]
  | _ => rfl

theorem struct_up {op : Op} {p : Wr} {σ : Env} {n : Nat} {u : AV} (h : structV S op ((upO p σ).eval n) = some u) : ∃ v, structV S op (σ.eval n) = some v ∧ u = (match p with | none => v | some (g, w) => v.up (ufun (single g w))) := by
  cases p with
  | none => exact ⟨u, h, rfl⟩
  | some q =>
    obtain ⟨g, w⟩ := q
    unfold structV at h ⊢
    split at h
    · rename_i x
      simp only [upO, eval_up, Option.some.injEq] at h
      exact ⟨_, rfl, h.symm⟩
    · rename_i s x f
      simp only [upO, eval_up] at h
      exact fieldV_up h
    · cases h

/-- A move or a field's address, and one that may write. -/
theorem swap_struct {oi oj : Oper} {mi mj : Bool} (hap : oj.apart ops oi = true) (hs : structural oi.op = true) (hg : oi.guard = none) {σ : Env} {k : Env → Prop} (hk : Ext k)
    (h : wGuard S true mj ops.toList oj σ fun σ1 => wGuard S true mi ops.toList oi σ1 k) : wGuard S true mi ops.toList oi σ fun σ1 => wGuard S true mj ops.toList oj σ1 k := by
  obtain ⟨a1, a2, a3⟩ := Oper.apart_spec hap
  obtain ⟨F, hF⟩ := mform (S := S) (ops := ops) mj oj
  have look : ∀ t, Operand.tmp t ∈ oi.op.operands → t ∈ oi.looksAt ops := by
    intro t ht
    unfold Oper.looksAt
    exact List.mem_append.2 (.inl (List.mem_filterMap.2 ⟨.tmp t, by simpa using ht, rfl⟩))
  have dV : ∀ (v : AV) (τ : Env), structV S oi.op ((putE oj.dst v τ).eval S.n) = structV S oi.op (τ.eval S.n) := by
    intro v τ
    unfold structV
    split
    · rename_i x ho
      rw [eval_put (fun t ht e => a1 t e (look t (by rw [ho, ← ht]; simp [Op.operands])))]
    · rename_i s x f ho
      rw [eval_put (fun t ht e => a1 t e (look t (by rw [ho, ← ht]; simp [Op.operands])))]
    · rfl
  have dF : ∀ u, F (putE oi.dst u σ) = F σ := fun u => hF.deps _ _ (fun t ht => putE_get (fun e => a3 t e ht))
  simp only [struct_eq hs hg, hF.eq, wPut_iff, dV] at h ⊢
  obtain ⟨p0, hd0, u0, hu0, hdi, _⟩ := good_some (hF.good σ) h
  obtain ⟨v, hv, _⟩ := struct_up hu0
  refine ⟨v, hv, hdi, ?_⟩
  rw [dF]
  refine good_mono (hF.good σ) h (fun p hp => ?_)
  obtain ⟨hd, u, hu, _, hku⟩ := hp
  refine ⟨hd, ?_⟩
  obtain ⟨v', hv', huv⟩ := struct_up hu
  have : v' = v := by rw [hv] at hv'; exact (Option.some.inj hv').symm
  subst this
  refine hk _ _ ?_ hku
  obtain ⟨p1, p2⟩ := p
  cases p2 with
  | none =>
    simp only at huv
    rw [huv]
    exact putE_comm (fun x hx e => a2 x e hx) _ _ σ
  | some q =>
    obtain ⟨g, w⟩ := q
    simp only at huv
    rw [huv]
    simp only [upO, putE_up]
    exact putE_comm (fun x hx e => a2 x e hx) _ _ _

/-- One operation is taken first. -/
theorem pull {m : Nat → Bool} {i : Nat} {oi : Oper} (hoi : ops[i]? = some oi) {L2 : List Nat} {k : Env → Prop} (hk : Ext k) : ∀ (L1 : List Nat) (σ : Env),
    (∀ j, j ∈ L1 → ∀ oj, ops[j]? = some oj → oj.apart ops oi = true ∧ m i = false ∧ (m j = false ∨ (structural oi.op = true ∧ oi.guard = none))) →
    wIdx S m ops (L1 ++ i :: L2) σ k → wGuard S true (m i) ops.toList oi σ fun σ' => wIdx S m ops (L1 ++ L2) σ' k
  | [], σ, hp, h => by simpa only [List.nil_append, wIdx, hoi] using h
  | j :: L1, σ, hp, h => by
    simp only [List.cons_append, wIdx] at h ⊢
    have hp' : ∀ j', j' ∈ L1 → ∀ oj, ops[j']? = some oj → oj.apart ops oi = true ∧ m i = false ∧ (m j' = false ∨ (structural oi.op = true ∧ oi.guard = none)) := fun j' hj' => hp j' (by simp [hj'])
    cases hoj : ops[j]? with
    | none =>
      rw [hoj] at h
      exact pull hoi hk L1 σ hp' h
    | some oj =>
      rw [hoj] at h
      have h2 := wGuard_mono (fun σ' hσ => pull hoi hk L1 σ' hp' hσ) h
      obtain ⟨q1, q2, q3⟩ := hp j (by simp) oj hoj
      rcases q3 with q3 | ⟨q3, q4⟩
      · exact swap_plain q1 (.inl q2) (.inl q3) (wIdx_ext hk _) h2
      · exact swap_struct q1 q3 q4 (wIdx_ext hk _) h2
end
end Go.VS
namespace Go.VS
open Go Go.RowKit
set_option linter.unusedVariables false
set_option linter.unusedSimpArgs false

/-- Operation i must stand before operation j. -/
inductive Reach (ops : Array Oper) : Nat → Nat → Prop
  | edge (j : Nat) (o : Oper) (e : Edge) (h : ops[j]? = some o) (he : e ∈ o.after.toList) (hb : Region.binds .any e = true) : Reach ops e.on j
  | trans (i j : Nat) (o : Oper) (e : Edge) (h : ops[j]? = some o) (he : e ∈ o.after.toList) (hb : Region.binds .any e = true) (hr : Reach ops i e.on) : Reach ops i j

theorem ancs_inner {ops : Array Oper} {j : Nat} {o : Oper} (h : ops[j]? = some o) {acc : List (List Nat)} (hacc : ∀ j i, i ∈ acc.getD j [] → Reach ops i j) : ∀ (es : List Edge) (s : List Nat), (∀ e, e ∈ es → e ∈ o.after.toList) → (∀ i, i ∈ s → Reach ops i j) →
    ∀ i, i ∈ es.foldl (fun s e => if Region.binds .any e then s ++ e.on :: (acc.getD e.on []) else s) s → Reach ops i j
  | [], s, he, hs, i, hi => hs i hi
  | e :: es, s, he, hs, i, hi => by
    simp only [List.foldl_cons] at hi
    refine ancs_inner h hacc es _ (fun e' he' => he e' (by simp [he'])) (fun x hx => ?_) i hi
    split at hx
    · rename_i hb
      rcases List.mem_append.1 hx with hx | hx
      · exact hs x hx
      · rcases List.mem_cons.1 hx with rfl | hx
        · exact .edge j o e h (he e (by simp)) hb
        · exact .trans x j o e h (he e (by simp)) hb (hacc _ _ hx)
    · exact hs x hx

theorem ancs_outer {ops : Array Oper} : ∀ (rest l : List Oper) (acc : List (List Nat)), ops.toList = l ++ rest → acc.length = l.length → (∀ j i, i ∈ acc.getD j [] → Reach ops i j) →
    ∀ j i, i ∈ (rest.foldl (fun acc o => acc ++ [o.after.toList.foldl (fun s e => if Region.binds .any e then s ++ e.on :: (acc.getD e.on []) else s) []]) acc).getD j [] → Reach ops i j
  | [], l, acc, he, hl, hacc, j, i, hi => hacc j i hi
  | o :: r, l, acc, he, hl, hacc, j, i, hi => by
    simp only [List.foldl_cons] at hi
    have h0 : ops[l.length]? = some o := by
      have : ops.toList[l.length]? = some o := by rw [he]; simp
      simpa using this
    refine ancs_outer r (l ++ [o]) _ (by rw [he]; simp) (by simp [hl]) (fun j' i' hi' => ?_) j i hi
    by_cases h1 : j' < acc.length
    · have : (acc ++ [o.after.toList.foldl (fun s e => if Region.binds .any e then s ++ e.on :: (acc.getD e.on []) else s) []]).getD j' [] = acc.getD j' [] := by
        simp [List.getD_eq_getElem?_getD, List.getElem?_append_left h1]
      rw [this] at hi'
      exact hacc j' i' hi'
    · by_cases h2 : j' = acc.length
      · subst h2
        have : (acc ++ [o.after.toList.foldl (fun s e => if Region.binds .any e then s ++ e.on :: (acc.getD e.on []) else s) []]).getD acc.length [] = o.after.toList.foldl (fun s e => if Region.binds .any e then s ++ e.on :: (acc.getD e.on []) else s) [] := by
          simp [List.getD_eq_getElem?_getD]
        rw [this] at hi'
        rw [hl]
        exact ancs_inner (by exact h0) hacc _ _ (fun e he => he) (fun x hx => by cases hx) i' hi'
      · have : (acc ++ [o.after.toList.foldl (fun s e => if Region.binds .any e then s ++ e.on :: (acc.getD e.on []) else s) []])[j']? = none := by
          rw [List.getElem?_eq_none]
          simp; omega
        rw [List.getD_eq_getElem?_getD, this] at hi'
        cases hi'

theorem ancs_reach {ops : Array Oper} {i j : Nat} (h : ((ancs ops.toList).getD j []).contains i = true) : Reach ops i j :=
  ancs_outer ops.toList [] [] (by simp) rfl (fun j i hi => by simp at hi) j i (by rw [List.contains_iff_mem] at h; exact h)

/-- What is listed is listed with all that must stand before it. -/
def Closed (ops : Array Oper) (listed : Array Bool) : Prop := ∀ j o, listed.getD j false = true → ops[j]? = some o → ∀ e, e ∈ o.after.toList → Region.binds .any e = true → listed.getD e.on false = true

theorem closed_reach {ops : Array Oper} {listed : Array Bool} (hc : Closed ops listed) {i j : Nat} (hr : Reach ops i j) : listed.getD j false = true → listed.getD i false = true := by
  induction hr with
  | edge j o e h he hb => exact fun hj => hc j o hj h e he hb
  | trans i j o e h he hb hr ih => exact fun hj => ih (hc j o hj h e he hb)
theorem ready_reach {ops : Array Oper} {listed : Array Bool} (hc : Closed ops listed) {i j : Nat} (hj : j ∈ Region.ready .any ops listed) (hr : Reach ops i j) : listed.getD i false = true := by
  obtain ⟨_, o, ho, hp⟩ := mem_ready.1 hj
  cases hr with
  | edge j o' e h he hb => rw [ho] at h; cases h; exact hp e (by simpa using he) hb
  | trans i j o' e h he hb hr => rw [ho] at h; cases h; exact closed_reach hc hr (hp e (by simpa using he) hb)

theorem getD_both {listed : Array Bool} {i : Nat} (h1 : listed.getD i false = true) : listed.getD i true = true := by
  rcases Nat.lt_or_ge i listed.size with h | h
  · simp only [Array.getD_eq_getD_getElem?, Array.getElem?_eq_getElem h, Option.getD_some] at h1 ⊢; exact h1
  · simp [Array.getElem?_eq_none h] at h1

structure Rem (ops : Array Oper) (listed : Array Bool) (rem : List Nat) : Prop where
  sorted : rem.Pairwise (· < ·)
  mem : ∀ i, i ∈ rem ↔ i < ops.size ∧ listed.getD i true = false

section
variable {S : Sys} {e : Entry} {ops : Array Oper} {m : Nat → Bool} {k : Env → Prop} {Q : Exit → Act → World → Prop}

theorem calm_back (hc : calm ops = true) {j : Nat} {o : Oper} (ho : ops[j]? = some o) : (∀ e, e ∈ o.after.toList → Region.binds .any e = true → e.on < j) ∧ ∀ i, i < j → ((ancs ops.toList).getD j []).contains i = true ∨ ∀ o', ops[i]? = some o' → o'.apart ops o = true := by
  have hlt : j < ops.size := (Array.getElem?_eq_some_iff.1 ho).1
  have h := List.all_eq_true.1 hc j (List.mem_range.2 hlt)
  simp only [ho, Bool.and_eq_true, List.all_eq_true, Bool.or_eq_true, Bool.not_eq_true', decide_eq_true_eq, List.mem_range] at h
  refine ⟨fun e he hb => ?_, fun i hi => ?_⟩
  · rcases h.1 e he with h1 | h1
    · rw [hb] at h1; cases h1
    · exact h1
  · rcases h.2 i hi with h1 | h1
    · exact .inl h1
    · refine .inr (fun o' ho' => ?_)
      rw [ho'] at h1
      exact h1

theorem mutOk_spec {j : Nat} (h : mutOkAt ops.toList j = true) : (∀ i, i < j → ((ancs ops.toList).getD j []).contains i = true) ∧ ∀ l o, j < l → ops[l]? = some o → ((ancs ops.toList).getD l []).contains j = true ∨ (structural o.op = true ∧ o.guard = none) := by
  unfold mutOkAt at h
  simp only [Bool.and_eq_true, List.all_eq_true, List.mem_range, Bool.or_eq_true, decide_eq_true_eq] at h
  refine ⟨h.1, fun l o hl ho => ?_⟩
  have hlt : l < ops.toList.length := by have := (Array.getElem?_eq_some_iff.1 ho).1; simpa using this
  have ho' : ops.toList[l]? = some o := by simpa using ho
  rcases h.2 l hlt with (h1 | h1) | h1
  · omega
  · exact .inl h1
  · rw [ho'] at h1
    simp only [Option.map_some, Option.getD_some, Bool.and_eq_true, Option.isNone_iff_eq_none] at h1
    exact .inr h1

theorem drawn_sound (good : Good S) (hs : sole ops.toList = true) (hc : calm ops = true) (hext : Ext k) (hk : ∀ Φ' H' σ' a' w', k σ' → Inv S e Φ' H' σ' a' w' → Q .normal a' w') :
    ∀ (fuel : Nat) (listed : Array Bool) (rem : List Nat) {Φ : Nat → Prop} {H : Tag → TI} {σ : Env} {a : Act} {w : World}, listed.size = ops.size → Closed ops listed → Rem ops listed rem → rem.length ≤ fuel → Inv S e Φ H σ a w →
      (∀ i, i ∈ rem → ∀ o, ops[i]? = some o → ∀ d, o.dst = some d → creates o.op = true → Fresh H d) → wIdx S (mutOkAt ops.toList) ops rem σ k → wpAny S.C.P .any ops Q fuel listed a w := by
  -- nothing is ready only where nothing is left
  have left : ∀ (listed : Array Bool) (rem : List Nat), listed.size = ops.size → Rem ops listed rem → Region.ready .any ops listed = [] → rem = [] := by
    intro listed rem hsz hr hn
    cases rem with
    | nil => rfl
    | cons i r =>
      exfalso
      have hi := (hr.mem i).1 (by simp)
      have hoi : ops[i]? = some ops[i] := Array.getElem?_eq_getElem hi.1
      have : i ∈ Region.ready .any ops listed := by
        refine mem_ready.2 ⟨hi.2, ops[i], hoi, fun ed hed hb => ?_⟩
        have hlt := (calm_back hc hoi).1 ed (by simpa using hed) hb
        cases hq : listed.getD ed.on false with
        | true => rfl
        | false =>
          have hlt2 : ed.on < ops.size := Nat.lt_trans hlt hi.1
          have hmem : ed.on ∈ i :: r := (hr.mem ed.on).2 ⟨hlt2, by
            have h3 : ed.on < listed.size := by omega
            simp only [Array.getD_eq_getD_getElem?, Array.getElem?_eq_getElem h3, Option.getD_some] at hq ⊢
            exact hq⟩
          rcases List.mem_cons.1 hmem with h4 | h4
          · omega
          · have := (List.pairwise_cons.1 hr.sorted).1 _ h4; omega
      rw [hn] at this
      cases this
  intro fuel
  induction fuel with
  | zero =>
    intro listed rem Φ H σ a w hsz hcl hr hlen inv hf h
    have : rem = [] := List.length_eq_zero_iff.1 (by omega)
    subst this
    refine ⟨?_, hk _ _ _ _ _ h inv⟩
    cases hq : Region.ready .any ops listed with
    | nil => rfl
    | cons x xs =>
      have hx : x ∈ Region.ready .any ops listed := by rw [hq]; simp
      obtain ⟨h1, o, ho, _⟩ := mem_ready.1 hx
      have := (hr.mem x).2 ⟨(Array.getElem?_eq_some_iff.1 ho).1, h1⟩
      cases this
  | succ fuel ih =>
    intro listed rem Φ H σ a w hsz hcl hr hlen inv hf h
    refine ⟨fun hn => ?_, fun i hi => ?_⟩
    · have := left listed rem hsz hr hn
      subst this
      exact hk _ _ _ _ _ h inv
    · obtain ⟨hli, oi, hoi, hpre⟩ := mem_ready.1 hi
      have hilt : i < ops.size := (Array.getElem?_eq_some_iff.1 hoi).1
      have himem : i ∈ rem := (hr.mem i).2 ⟨hilt, hli⟩
      obtain ⟨L1, L2, rfl⟩ := List.append_of_mem himem
      have hnot : ∀ j, j ∈ L1 → ¬ Reach ops j i := fun j hj hre => by
        have h1 := getD_both (ready_reach hcl hi hre)
        have h2 := ((hr.mem j).1 (by simp [hj])).2
        rw [h1] at h2
        cases h2
      have hlt : ∀ j, j ∈ L1 → j < i := fun j hj => (List.pairwise_append.1 hr.sorted).2.2 j hj i (by simp)
      have hpull := pull hoi hext L1 σ (fun j hj oj hoj => by
        have hji := hlt j hj
        refine ⟨?_, ?_, ?_⟩
        · rcases (calm_back hc hoi).2 j hji with h1 | h1
          · exact absurd (ancs_reach h1) (hnot j hj)
          · exact h1 oj hoj
        · cases hq : mutOkAt ops.toList i with
          | false => rfl
          | true => exact absurd (ancs_reach ((mutOk_spec hq).1 j hji)) (hnot j hj)
        · cases hq : mutOkAt ops.toList j with
          | false => exact .inl rfl
          | true =>
            rcases (mutOk_spec hq).2 i oi hji hoi with h1 | h1
            · exact absurd (ancs_reach h1) (hnot j hj)
            · exact .inr h1) h
      have hstep := guard_sound (Q := Q) good inv (hf i himem oi hoi) hpull (next := wpAny S.C.P .any ops Q fuel (listed.setIfInBounds i true)) (fun Φ' H' σ' a' w' hσ hi' hp => by
        have hset : ∀ j, j ≠ i → (listed.setIfInBounds i true).getD j true = listed.getD j true := fun j hj => getD_set_ne true (fun e1 => hj e1.symm)
        have hself : (listed.setIfInBounds i true).getD i true = true := by
          have : i < listed.size := by omega
          simp [this]
        refine ih (listed.setIfInBounds i true) (L1 ++ L2) (by simpa using hsz) ?_ ?_ (by simp at hlen ⊢; omega) hi' ?_ hσ
        · intro j o hj ho ed hed hb
          by_cases hji : j = i
          · subst hji
            rw [hoi] at ho
            cases ho
            exact getD_set_true (hpre ed (by simpa using hed) hb)
          · rw [getD_set_ne false (fun e1 => hji e1.symm)] at hj
            exact getD_set_true (hcl j o hj ho ed hed hb)
        · have hnd : i ∉ L1 ++ L2 := by
            intro hmem
            rcases List.mem_append.1 hmem with h1 | h1
            · have := hlt i h1; omega
            · have := (List.pairwise_cons.1 (List.pairwise_append.1 hr.sorted).2.1).1 i h1; omega
          refine ⟨?_, fun j => ?_⟩
          · exact hr.sorted.sublist (List.Sublist.append_left (List.sublist_cons_self i L2) L1)
          · have hm := hr.mem j
            by_cases hji : j = i
            · subst hji
              exact iff_of_false hnd (fun h1 => by rw [hself] at h1; cases h1.2)
            · rw [hset j hji, ← hm]
              simp [hji]
        · intro j hj o ho d hd hcr
          have hjm : j ∈ L1 ++ i :: L2 := by
            rcases List.mem_append.1 hj with h1 | h1
            · simp [h1]
            · simp [h1]
          refine hp.fresh (fun h0 => ?_) (hf j hjm o ho d hd hcr)
          have hji : j ≠ i := by
            intro e1
            subst e1
            rcases List.mem_append.1 hj with h1 | h1
            · have := hlt j h1; omega
            · have := (List.pairwise_cons.1 (List.pairwise_append.1 hr.sorted).2.1).1 j h1; omega
          -- two operations with one slot
          have hoj' : ops.toList[j]? = some o := by simpa using ho
          have hoi' : ops.toList[i]? = some oi := by simpa using hoi
          have h1 := List.all_eq_true.1 hs o (List.mem_of_getElem? hoj')
          simp only [hcr, hd, Bool.not_true, Bool.false_or, decide_eq_true_eq] at h1
          have two : ∀ (l : List Oper) (x y : Nat) (p q : Oper), x < y → l[x]? = some p → l[y]? = some q → p.dst = some d → q.dst = some d → 2 ≤ (l.filter (fun o' => o'.dst == some d)).length := by
            intro l
            induction l with
            | nil => intro x y p q _ hx; simp at hx
            | cons z r ihl =>
              intro x y p q hxy hx hy hp hq
              cases y with
              | zero => omega
              | succ y =>
                cases x with
                | zero =>
                  simp at hx hy
                  subst hx
                  have hmem : q ∈ r.filter (fun o' => o'.dst == some d) := List.mem_filter.2 ⟨List.mem_of_getElem? hy, by simp [hq]⟩
                  have := List.length_pos_of_mem hmem
                  simp [List.filter_cons, hp]
                  omega
                | succ x =>
                  have := ihl x y p q (by omega) (by simpa using hx) (by simpa using hy) hp hq
                  simp only [List.filter_cons]
                  split
                  · simp; omega
                  · exact this
          have h2 : 2 ≤ (ops.toList.filter (fun o' => o'.dst == some d)).length := by
            rcases Nat.lt_or_gt_of_ne hji with hq | hq
            · exact two _ j i o oi hq hoj' hoi' hd h0
            · exact two _ i j oi o hq hoi' hoj' h0 hd
          omega)
      unfold wpOp
      simp only [hoi]
      split at hstep
      · rename_i hw; rw [if_pos hw]; exact .inl hstep
      · rename_i hw; rw [if_neg hw]; exact hstep

/-- A region that draws its order. -/
theorem region_draw (good : Good S) {id : Nat} (hs : sole ops.toList = true) (hc : calm ops = true) {Φ : Nat → Prop} {H : Tag → TI} {σ : Env} {a : Act} {w : World} (inv : Inv S e Φ H σ a w) (hext : Ext k)
    (h : wOps S true (mutOkAt ops.toList) ops.toList 0 ops.toList (σ.up (ren (VS.age (creators ops.toList)))) k)
    (hk : ∀ Φ' H' σ' a' w', k σ' → Inv S e Φ' H' σ' a' w' → Q .normal a' w') : (Code.region id ops true).wp S.C.P Q a w := by
  refine wp_region_any S.C.mixed ?_
  have inv1 := inv.age (creators ops.toList)
  have inv2 : Inv S e Φ _ _ a { w with drawn := w.drawn + 1 } := inv1.keep (Φ' := Φ) (fun _ hb => hb) (fun b hb => .inl hb) (fun _ _ => rfl) (Nat.le_refl _) rfl rfl rfl
  have hidx := wOps_idx (ops := ops) ops.toList [] _ (by simp) h
  simp only [List.length_nil, Array.length_toList, ← List.range_eq_range'] at hidx
  refine drawn_sound good hs hc hext hk ops.size _ (List.range ops.size) (by simp) ?_ ?_ (by simp) inv2 (fun i hi o ho d hd hcr => inv.aged ops.toList o (List.mem_of_getElem? (by simpa using ho : ops.toList[i]? = some o)) d hd hcr) hidx
  · intro j o hj
    rcases Nat.lt_or_ge j ops.size with h1 | h1
    · simp [h1] at hj
    · simp [h1] at hj
  · refine ⟨List.pairwise_lt_range, fun i => ?_⟩
    rw [List.mem_range]
    constructor
    · intro hi; exact ⟨hi, by simp [hi]⟩
    · exact fun h => h.1
end
end Go.VS
namespace Go.VS
open Go Go.RowKit
set_option linter.unusedVariables false
set_option linter.unusedSimpArgs false

theorem prune_eqv {σ σ' : Env} (he : σ.eqv σ') : ∀ l, σ'.prune l = σ.prune l
  | [] => rfl
  | t :: r => by simp only [Env.prune, he t, prune_eqv he r]

/-- How code goes out. -/
def Ex.out : Ex → Exit
  | .normal => .normal
  | .exit id => .exit id
  | .ret => .ret

section
variable {S : Sys} {e : Entry}

theorem prune_ext {Q : Ex → Env → Prop} (l : List Nat) : Ext (fun σ' => Q .normal (σ'.prune l)) := by
  intro σ σ' he h
  simp only [prune_eqv he l]
  exact h

theorem RL.nil_own {C : Ctx} {w : World} {Φ : Nat → Prop} {H : Tag → TI} {v : Value} (h : RL C w Φ H v (.d .nil)) (t : Nat) (ty : TypeId) : RL C w Φ H v (.own (.var t) ty []) := by
  have := h.flat
  cases this
  exact .own0 _ ty rfl

theorem adoptTmp_get (t : Nat) (ty : TypeId) : ∀ (σ : Env) (x : Nat), (adoptTmp t ty σ).get x = σ.get x ∨ (x = t ∧ σ.get x = .one (.d .nil) ∧ (adoptTmp t ty σ).get x = .one (.own (.var t) ty []))
  | [], x => .inl rfl
  | (k, v) :: r, x => by
    simp only [adoptTmp]
    split
    · rename_i hk
      subst hk
      split
      · simp only [Env.get]
        by_cases hx : k = x
        · subst hx; right; simp
        · left; simp [hx]
      · exact .inl rfl
    · rename_i hk
      simp only [Env.get]
      by_cases hx : k = x
      · left; simp [hx]
      · simp only [hx, if_false]
        exact adoptTmp_get t ty r x

/-- A variable's cell that holds nil is taken for a list without room. -/
def adoptC (off : Nat) (ty : TypeId) (c : List LV) : List LV := match c[off]? with | some (.d .nil) => c.set off (.own (.var off) ty []) | _ => c
def adoptB (g : Tag) (off : Nat) (ty : TypeId) (H : Tag → TI) (h : Tag) : TI :=
  if h = g then (match (H h).up (adoptL g off ty) with | .box b c => .box b (adoptC off ty c) | i => i) else (H h).up (adoptL g off ty)
theorem adoptL_ptr (g : Tag) (off : Nat) (ty : TypeId) (o : Nat) (c : List LV) : adoptL g off ty (.ptr g o c) = .ptr g o (adoptC off ty c) := by
  simp only [adoptL, if_true, adoptC]
  by_cases h : c[off]? = some (.d .nil)
  · simp only [h]
  · split
    · rename_i h'; exact absurd h' h
    · split
      · rename_i h'; exact absurd h' h
      · rfl

theorem Inv.adoptCell {Φ : Nat → Prop} {H : Tag → TI} {σ : Env} {a : Act} {w : World} (h : Inv S e Φ H σ a w) (g : Tag) (off : Nat) (ty : TypeId) : Inv S e Φ (adoptB g off ty H) (σ.up (adoptL g off ty)) a w := by
  have f : Fits S.C w w Φ Φ H (adoptB g off ty H) (adoptL g off ty) := by
    refine ⟨fun _ hb => hb, fun _ _ => rfl, fun g' t xs v hg h1 => ?_, fun g' t hg => .own0 _ t hg, fun g' o c b hg => ?_, fun g' t xs i o b n cap hg hlt => ?_, fun g' k x F v hg h1 => ?_⟩
    · refine .own _ t xs v ?_ h1
      by_cases e1 : g' = g <;> simp [adoptB, e1, hg, TI.up] <;> (subst e1; simp [hg, TI.up])
    · by_cases e1 : g' = g
      · subst e1
        rw [adoptL_ptr]
        refine .ptr _ o _ b ?_
        simp [adoptB, hg, TI.up]
      · have : adoptL g off ty (.ptr g' o (LV.ups (adoptL g off ty) c)) = .ptr g' o (LV.ups (adoptL g off ty) c) := by simp [adoptL, e1]
        rw [this]
        exact .ptr _ o _ b (by simp [adoptB, e1, hg, TI.up])
    · refine .eptr _ t xs i o b n cap ?_ hlt
      by_cases e1 : g' = g <;> simp [adoptB, e1, hg, TI.up] <;> (subst e1; simp [hg, TI.up])
    · refine .obj _ k x F v ?_ h1
      by_cases e1 : g' = g <;> simp [adoptB, e1, hg, TI.up] <;> (subst e1; simp [hg, TI.up])
  have foot : ∀ g', (adoptB g off ty H g').foot = (H g').foot := by
    intro g'
    unfold adoptB
    split
    · rename_i e1
      cases hg : H g' with
      | box b c => simp [TI.up, TI.foot]
      | _ => simp [TI.up, TI.foot]
    · exact TI.foot_up _ _
  refine h.turn f (fun g' b hb => by rw [foot] at hb; exact hb) (fun g' => ?_) (fun g' hv => ?_) (fun g' hn => ?_) (fun b hb => .inl hb) (fun g' b hb => by rw [foot] at hb; exact h.hi.nophi g' b hb) rfl (fun _ _ => rfl) rfl rfl rfl
  · have hok := (h.hi.ok g').up f (fun _ _ => rfl)
    unfold adoptB at hok ⊢
    split
    · rename_i e1
      subst e1
      cases hg : H g' with
      | box b c =>
        rw [hg] at hok
        simp only [TI.up] at hok ⊢
        cases hok with
        | box _ _ cur ty' hh hn hr =>
          refine .box b _ cur ty' hh ?_ (fun j l v h1 h2 => ?_)
          · unfold adoptC; split <;> simp [hn]
          · unfold adoptC at h1
            split at h1
            · rename_i hc
              rw [List.getElem?_set] at h1
              split at h1
              · rename_i ho
                subst ho
                split at h1
                · simp only [Option.some.injEq] at h1
                  subst h1
                  exact (hr off _ v hc h2).nil_own off ty
                · cases h1
              · exact hr j l v h1 h2
            · exact hr j l v h1 h2
      | none => rw [hg] at hok; exact hok
      | arr v t xs => rw [hg] at hok; exact hok
      | ob F k v x => rw [hg] at hok; exact hok
    · exact hok
  · have := h.hi.novar g' hv
    unfold adoptB
    rw [this]
    split <;> rfl
  · unfold adoptB
    rw [hn]
    split <;> rfl

theorem Inv.adopt : ∀ (ad : List Ad) {Φ : Nat → Prop} {H : Tag → TI} {σ : Env} {a : Act} {w : World}, Inv S e Φ H σ a w → ∃ H', Inv S e Φ H' (σ.adopt ad) a w
  | [], Φ, H, σ, a, w, h => ⟨H, h⟩
  | .tmp t ty :: r, Φ, H, σ, a, w, h => by
    refine Inv.adopt r (H := H) { h with env := fun x => ?_ }
    have hx := h.env x
    rcases adoptTmp_get t ty σ x with h1 | ⟨_, h1, h2⟩
    · rw [h1]; exact hx
    · rw [h1] at hx
      rw [h2]
      generalize cellv S e a x = vx at *
      cases hx with
      | one v l hl => exact .one _ _ (hl.nil_own t ty)
  | .cell g off ty :: r, Φ, H, σ, a, w, h => Inv.adopt r (h.adoptCell g off ty)

theorem code_sound (good : Good S) : ∀ (c : Code) (b : Nat) {Q : Ex → Env → Prop} {QQ : Exit → Act → World → Prop} {Φ : Nat → Prop} {H : Tag → TI} {σ : Env} {a : Act} {w : World}, wCode S b c Q σ → Inv S e Φ H σ a w →
    (∀ ex σ' Φ' H' a' w', Q ex σ' → Inv S e Φ' H' σ' a' w' → QQ ex.out a' w') → c.wp S.C.P QQ a w := by
  intro c
  induction c with
  | skip => intro b Q QQ Φ H σ a w h inv hq; exact wp_skip (hq .normal _ _ _ _ _ h inv)
  | region id ops draw =>
    intro b Q QQ Φ H σ a w h inv hq
    obtain ⟨hs, hc, h⟩ := h
    have hk : ∀ Φ' H' σ' a' w', (fun σ' => Q .normal (σ'.prune (S.keep id))) σ' → Inv S e Φ' H' σ' a' w' → QQ .normal a' w' := fun Φ' H' σ' a' w' hσ hi => hq .normal _ _ _ _ _ hσ (hi.prune _)
    cases draw with
    | false => exact region_text good hs inv h hk
    | true => exact region_draw good hs (hc rfl) inv (prune_ext _) (by simpa using h) hk
  | seq x y ihx ihy =>
    intro b Q QQ Φ H σ a w h inv hq
    refine wp_seq (ihx b h inv (fun ex σ' Φ' H' a' w' hσ hi => ?_))
    cases ex with
    | normal => exact ihy b hσ hi hq
    | exit id => exact hq _ _ _ _ _ _ hσ hi
    | ret => exact hq _ _ _ _ _ _ hσ hi
  | cond x c1 c2 ih1 ih2 =>
    intro b Q QQ Φ H σ a w h inv hq
    obtain ⟨t, ht, h1, h2⟩ := wBool_inv h
    have hx := inv.eval x
    rw [ht] at hx
    exact wp_cond_split hx.bool (fun e1 => ih1 b (h1 e1) inv hq) (fun e1 => ih2 b (h2 e1) inv hq)
  | block id body ih =>
    intro b Q QQ Φ H σ a w h inv hq
    refine wp_block (ih id h inv (fun ex σ' Φ' H' a' w' hσ hi => ?_))
    cases ex with
    | normal => exact hq _ _ _ _ _ _ hσ hi
    | exit i =>
      simp only [Ex.out, Exit.inBlock]
      dsimp only at hσ
      split at hσ
      · rename_i hid; rw [if_pos hid]; exact hq .normal _ _ _ _ _ hσ hi
      · rename_i hid; rw [if_neg hid]; exact hq (.exit i) _ _ _ _ _ hσ hi
    | ret => exact hq _ _ _ _ _ _ hσ hi
  | loop body ih =>
    intro b Q QQ Φ H σ a w h inv hq
    obtain ⟨ad, I, n, h0, hr⟩ := h
    obtain ⟨H1, inv1⟩ := (inv.prune (S.loopKeep b)).adopt ad
    refine wp_loop_ghost (fun n a w => ∃ Φ H σ, I n σ ∧ Inv S e Φ H σ a w) n ⟨Φ, H1, _, h0, inv1⟩ ?_
    rintro n a w ⟨Φ, H, σ, hI, inv⟩
    refine ih b (hr n σ hI) inv (fun ex σ' Φ' H' a' w' hσ hi => ?_)
    cases ex with
    | normal =>
      obtain ⟨m, hm, hI⟩ := hσ
      exact ⟨m, hm, Φ', H', _, hI, hi.prune _⟩
    | exit id => exact hq _ _ _ _ _ _ hσ hi
    | ret => exact hq _ _ _ _ _ _ hσ hi
  | exit id => intro b Q QQ Φ H σ a w h inv hq; exact wp_exit (hq (.exit id) _ _ _ _ _ h inv)
  | ret => intro b Q QQ Φ H σ a w h inv hq; exact wp_ret (hq .ret _ _ _ _ _ h inv)
  | _ => intro b Q QQ Φ H σ a w h inv hq; exact h.elim
end
end Go.VS
namespace Go.VS
open Go Go.RowKit
set_option linter.unusedVariables false
set_option linter.unusedSimpArgs false

mutual
def LV.tags : LV → List Tag
  | .own g _ _ => [g]
  | .ptr g _ c => g :: LV.tagss c
  | .eptr g _ _ _ _ => [g]
  | .obj g _ _ => [g]
  | .clo _ caps => LV.tagss caps
  | .d _ => []
  | .top => []
  | .dptr _ _ => []
def LV.tagss : List LV → List Tag
  | [] => []
  | l :: r => l.tags ++ LV.tagss r
end
mutual
def AV.tags : AV → List Tag
  | .one l => l.tags
  | .agg ls => LV.tagss ls
  | .tup vs => AV.tagss vs
def AV.tagss : List AV → List Tag
  | [] => []
  | l :: r => l.tags ++ AV.tagss r
end

/-- A value may be taken for another that tells less. -/
def viewL (l m : LV) : Prop := l = m ∨ (l = .d .nil ∧ ∃ e, m = .d (.list e []))
def viewLs : List LV → List LV → Prop
  | [], [] => True
  | l :: r, m :: s => viewL l m ∧ viewLs r s
  | _, _ => False
def view1 : AV → AV → Prop
  | .one l, .one m => viewL l m
  | .agg ls, .agg ms => viewLs ls ms
  | a, b => a = b
def views : List AV → List AV → Prop
  | [], [] => True
  | l :: r, m :: s => view1 l m ∧ views r s
  | _, _ => False
def view : AV → AV → Prop
  | .tup vs, .tup us => views vs us
  | a, b => view1 a b

def entryFrom : Nat → List AV → Env
  | _, [] => []
  | i, a :: r => (i, a) :: entryFrom (i + 1) r
def entry (n : Nat) (args : List AV) : Env := entryFrom 0 args ++ entryFrom n args
def outsFrom (σ : Env) (n : Nat) : Nat → List AV
  | 0 => []
  | k + 1 => outsFrom σ n k ++ [σ.get (n + k)]

section
variable (S : Sys)
def wResults (σ : Env) : List ResultVar → (List AV → Prop) → Prop
  | [], K => K []
  | .tmp t :: r, K => wResults σ r fun vs => K (σ.eval S.n (.tmp t) :: vs)
  | .cell x ty :: r, K => wLoad S ty (σ.eval S.n (.tmp x)) fun v => wResults σ r fun vs => K (v :: vs)
def res1 : List AV → AV
  | [v] => v
  | vs => .tup vs
/-- At a function's end: what comes back keeps the contract. 'fz': what comes back is only read from now on. -/
def wEnd (fz : Bool) (res : List ResultVar) (k : Nat) (R : AV → List AV → Prop) (σ : Env) : Prop :=
  wResults S σ res fun vs => ∃ r', view (if fz then (res1 vs).up (frz S.C.P (among (res1 vs).tags)) else res1 vs) r' ∧ R r' ((outsFrom σ S.n k).map fun o => if fz then o.up (frz S.C.P (among (res1 vs).tags)) else o)
def wFun (fz : Bool) (res : List ResultVar) (c : Code) (args : List AV) (R : AV → List AV → Prop) : Prop :=
  wCode S 0 c (fun ex σ => match ex with | .exit _ => False | _ => wEnd S fz res args.length R σ) (entry S.n args)
end

section
variable {C : Ctx} {w : World} {Φ : Nat → Prop} {H : Tag → TI}
theorem RL.view {v : Value} {l m : LV} (h : RL C w Φ H v l) (hv : viewL l m) : RL C w Φ H v m := by
  rcases hv with rfl | ⟨rfl, e, rfl⟩
  · exact h
  · have := h.flat
    cases this
    exact .d _ _ (.nil' e)
theorem viewLs_get : ∀ {ls ms : List LV}, viewLs ls ms → ls.length = ms.length ∧ ∀ (i : Nat) m, ms[i]? = some m → ∃ l, ls[i]? = some l ∧ viewL l m
  | [], [], _ => ⟨rfl, fun i m h => by simp at h⟩
  | l :: r, m :: s, h => by
    obtain ⟨h1, h2⟩ := viewLs_get h.2
    refine ⟨by simp [h1], fun i m' hm => ?_⟩
    cases i with
    | zero => simp at hm; subst hm; exact ⟨l, by simp, h.1⟩
    | succ i => simpa using h2 i m' (by simpa using hm)
  | [], _ :: _, h => h.elim
  | _ :: _, [], h => h.elim
theorem RA.view1 {v : Value} {a b : AV} (h : RA C w Φ H v a) (hv : VS.view1 a b) : RA C w Φ H v b := by
  unfold VS.view1 at hv
  split at hv
  · rename_i l m
    cases h with
    | one _ _ hl => exact .one _ _ (hl.view hv)
    | any _ =>
      rcases hv with rfl | ⟨hq, _⟩
      · exact .any _
      · cases hq
  · rename_i ls ms
    obtain ⟨h1, h2⟩ := viewLs_get hv
    cases h with
    | agg _ vs hn hh =>
      refine .agg ms vs (by omega) (fun i v m g1 g2 => ?_)
      obtain ⟨l, hl, hlm⟩ := h2 i m g2
      exact (hh i v l g1 hl).view hlm
  · subst hv; exact h
theorem views_get : ∀ {ls ms : List AV}, views ls ms → ls.length = ms.length ∧ ∀ (i : Nat) m, ms[i]? = some m → ∃ l, ls[i]? = some l ∧ VS.view1 l m
  | [], [], _ => ⟨rfl, fun i m h => by simp at h⟩
  | l :: r, m :: s, h => by
    obtain ⟨h1, h2⟩ := views_get h.2
    refine ⟨by simp [h1], fun i m' hm => ?_⟩
    cases i with
    | zero => simp at hm; subst hm; exact ⟨l, by simp, h.1⟩
    | succ i => simpa using h2 i m' (by simpa using hm)
  | [], _ :: _, h => h.elim
  | _ :: _, [], h => h.elim
theorem RA.view {v : Value} {a b : AV} (h : RA C w Φ H v a) (hv : VS.view a b) : RA C w Φ H v b := by
  unfold VS.view at hv
  split at hv
  · rename_i vs us
    obtain ⟨h1, h2⟩ := views_get hv
    cases h with
    | tup _ cs hn hh =>
      refine .tup us cs (by omega) (fun i v m g1 g2 => ?_)
      obtain ⟨l, hl, hlm⟩ := h2 i m g2
      exact (hh i v l g1 hl).view1 hlm
  · exact h.view1 hv
end

theorem entryFrom_get : ∀ (args : List AV) (i t : Nat), (entryFrom i args).get t = if i ≤ t then (args[t - i]?).getD (.one .top) else .one .top
  | [], i, t => by simp [entryFrom, Env.get]
  | a :: r, i, t => by
    simp only [entryFrom, Env.get]
    by_cases h1 : i = t
    · subst h1; simp
    · simp only [h1, if_false, entryFrom_get r (i + 1) t]
      by_cases h2 : i ≤ t
      · have h3 : i + 1 ≤ t := by omega
        have h4 : t - i = (t - (i + 1)) + 1 := by omega
        simp only [h2, h3, if_true, h4, List.getElem?_cons_succ]
      · have h3 : ¬ i + 1 ≤ t := by omega
        simp only [h2, h3, if_false]
theorem get_append : ∀ (σ τ : Env) (t : Nat), (σ ++ τ).get t = if σ.any (fun p => p.1 == t) then σ.get t else τ.get t
  | [], τ, t => by simp
  | (k, v) :: r, τ, t => by
    simp only [List.cons_append, Env.get, List.any_cons]
    by_cases h : k = t
    · simp [h]
    · simp only [h, if_false, get_append r τ t]
      have : (k == t) = false := by simp [h]
      rw [this, Bool.false_or]
theorem entryFrom_any : ∀ (args : List AV) (i t : Nat), (entryFrom i args).any (fun p => p.1 == t) = decide (i ≤ t ∧ t < i + args.length)
  | [], i, t => by
    have : ¬ (i ≤ t ∧ t < i + 0) := by omega
    simp only [entryFrom, List.any_nil, List.length_nil, this, decide_false]
  | a :: r, i, t => by
    simp only [entryFrom, List.any_cons, entryFrom_any r (i + 1) t, List.length_cons]
    by_cases h : i = t
    · subst h; simp
    · have : (i == t) = false := by simp [h]
      rw [this, Bool.false_or]
      congr 1
      apply propext
      omega
theorem outsFrom_get (σ : Env) (n : Nat) : ∀ (k i : Nat), (outsFrom σ n k)[i]? = if i < k then some (σ.get (n + i)) else none
  | 0, i => by simp [outsFrom]
  | k + 1, i => by
    have hlen : ∀ k, (outsFrom σ n k).length = k := by
      intro k
      induction k with
      | zero => rfl
      | succ k ih => simp [outsFrom, ih]
    simp only [outsFrom, List.getElem?_append, hlen, outsFrom_get σ n k i]
    by_cases h1 : i < k
    · have h2 : i < k + 1 := by omega
      rw [if_pos h1, if_pos h1, if_pos h2]
    · by_cases h2 : i = k
      · subst h2
        rw [if_neg h1, if_pos (Nat.lt_succ_self _)]
        simp
      · have h3 : ¬ i < k + 1 := by omega
        rw [if_neg h1, if_neg h3]
        exact List.getElem?_eq_none (by simp; omega)

section
variable {S : Sys} {e : Entry}

theorem results_sound {Φ : Nat → Prop} {H : Tag → TI} {σ : Env} {a : Act} {w : World} (inv : Inv S e Φ H σ a w) : ∀ (res : List ResultVar) {K : List AV → Prop}, wResults S σ res K →
    ∃ (cs : List Value) (vs : List AV), (res.mapM (fun x => match x with | .tmp t => pure (a.tmps.getD t undef) | .cell x t => do loadVar t (← asAddr (a.tmps.getD x undef)) : ResultVar → Sem Value)).run S.C.P w = .ok cs w ∧ cs.length = vs.length ∧ (∀ (i : Nat) c v, cs[i]? = some c → vs[i]? = some v → RA S.C w Φ H c v) ∧ K vs
  | [], K, h => ⟨[], [], by simp, rfl, fun i c v h => by simp at h, h⟩
  | .tmp t :: r, K, h => by
    obtain ⟨cs, vs, h1, h2, h3, h4⟩ := results_sound inv r h
    refine ⟨a.tmps.getD t undef :: cs, _ :: vs, ?_, by simp [h2], fun i c v g1 g2 => ?_, h4⟩
    · simp only [List.mapM_cons, Sem.run_bind, Sem.run_pure, Result.andThen_ok, h1]
    · cases i with
      | zero => simp at g1 g2; subst g1; subst g2; have := inv.eval (.tmp t); simpa [Act.eval] using this
      | succ i => exact h3 i c v (by simpa using g1) (by simpa using g2)
  | .cell x ty :: r, K, h => by
    obtain ⟨u, au, hr, hu, hk⟩ := load_sound (e := e) (σ := σ) (a := a) inv.hi (inv.eval (.tmp x)) h
    obtain ⟨cs, vs, h1, h2, h3, h4⟩ := results_sound inv r hk
    have hp : ∃ ad, a.tmps.getD x undef = .pointer (some ad) := by
      have hx := inv.eval (.tmp x)
      simp only [Act.eval] at hx
      simp only [wResults, wLoad] at h
      generalize a.tmps.getD x undef = vx at *
      split at h
      · rename_i heq; rw [heq] at hx; cases hx with | one _ _ hl => cases hl with | ptr => exact ⟨_, rfl⟩
      · rename_i heq; rw [heq] at hx; cases hx with | one _ _ hl => cases hl with | dptr => exact ⟨_, rfl⟩
      · rename_i heq; rw [heq] at hx; cases hx with | one _ _ hl => cases hl with | eptr => exact ⟨_, rfl⟩
      · exact h.elim
    obtain ⟨ad, hp⟩ := hp
    have hload : (loadVar ty ad).run S.C.P w = .ok u w := by
      have : (Instr.loadAt ty (a.tmps.getD x undef)).run S.C.P w = .ok u w := hr
      rw [hp] at this
      simpa [Instr.loadAt, Instr.sureAddr] using this
    refine ⟨u :: cs, au :: vs, ?_, by simp [h2], fun i c v g1 g2 => ?_, h4⟩
    · have ha : (asAddr (a.tmps.getD x undef)).run S.C.P w = .ok ad w := by rw [hp]; simp [asAddr]
      simp only [List.mapM_cons, Sem.run_bind, ha, Sem.run_pure, Result.andThen_ok, hload, h1]
    · cases i with
      | zero => simp at g1 g2; subst g1; subst g2; exact hu
      | succ i => exact h3 i c v (by simpa using g1) (by simpa using g2)

/-- The code leads on from what is known to what is to be known. -/
def Leads (S : Sys) (c : Code) (σ : Env) (Q : Ex → Env → Prop) : Prop :=
  ∀ (e : Entry) (QQ : Exit → Act → World → Prop) (Φ : Nat → Prop) (H : Tag → TI) (a : Act) (w : World), Inv S e Φ H σ a w → (∀ ex σ' Φ' H' a' w', Q ex σ' → Inv S e Φ' H' σ' a' w' → QQ ex.out a' w') → c.wp S.C.P QQ a w

theorem fun_leads {f : FuncId} {fn : Func} {c : Code} (hf : S.C.P.funcs[f]? = some fn) (hb : fn.body = some c) (hn : S.n = fn.ntmps) {args : List AV} (hna : args.length ≤ fn.ntmps) (fz : Bool) {R : AV → List AV → Prop}
    (h : Leads S c (entry S.n args) (fun ex σ => match ex with | .exit _ => False | _ => wEnd S fz fn.results.toList args.length R σ)) : Okp S.C f args R := by
  intro w Φ H vs hG hi hsz hargs
  refine calls_of_wp hf hb ?_
  have inv : Inv S ⟨w, Φ, H, vs⟩ Φ H (entry S.n args) { tmps := vs ++ Array.replicate (fn.ntmps - vs.size) undef, defers := [] } w := by
    refine ⟨hi, fun t => ?_, hG, by simp; omega, rfl, Fr.refl _ _ _⟩
    have key : ∀ i : Nat, (args[i]?).getD (AV.one .top) = AV.one .top ∨ ∃ v a, vs[i]? = some v ∧ args[i]? = some a := by
      intro i
      by_cases hi : i < args.length
      · have h2 : i < vs.size := by omega
        exact .inr ⟨vs[i], args[i], by simp [h2], by simp [hi]⟩
      · left; rw [List.getElem?_eq_none (by omega)]; rfl
    unfold entry cellv
    rw [get_append, entryFrom_any, entryFrom_get, entryFrom_get]
    by_cases ht : t < S.n
    · simp only [ht, if_true, Nat.zero_add, Nat.zero_le, true_and, Nat.sub_zero]
      have hng : ¬ S.n ≤ t := by omega
      simp only [hng, if_false]
      split
      · rename_i hlt
        have hlt : t < args.length := by simpa using hlt
        have h2 : t < vs.size := by omega
        have hget : (vs ++ Array.replicate (fn.ntmps - vs.size) undef).getD t undef = vs[t] := by
          simp [Array.getElem?_append, h2]
        rw [hget]
        have : args[t]? = some args[t] := by simp [hlt]
        rw [this]
        exact hargs t _ _ (by simp [h2]) this
      · exact .any _
    · simp only [ht, if_false, Nat.zero_le, true_and, Nat.zero_add]
      have hnl : ¬ t < args.length := by omega
      have hge : S.n ≤ t := by omega
      simp only [hnl, decide_false, Bool.false_eq_true, if_false, hge, if_true]
      rcases key (t - S.n) with h1 | ⟨v, a, h1, h2⟩
      · rw [h1]; exact .any _
      · rw [h2]
        have : vs.getD (t - S.n) undef = v := by simp [h1]
        simp only [this, Option.getD_some]
        exact hargs _ v a h1 h2
  refine h _ _ Φ H _ w inv (fun ex σ' Φ' H' a' w' hσ hi' => ?_)
  have fin : wEnd S fz fn.results.toList args.length R σ' → a'.defers = [] ∧ ∃ v, (results fn a'.tmps).run S.C.P w' = .ok v w' ∧ ∃ v' r o Φ'' H'', Ending.returned v = .returned v' ∧ R r o ∧ HInv S.C w' Φ'' H'' ∧ S.C.G w' ∧ RA S.C w' Φ'' H'' v' r ∧
      (∀ (i : Nat) v a, vs[i]? = some v → o[i]? = some a → RA S.C w' Φ'' H'' v a) ∧ Fr w Φ H w' Φ'' H'' := by
    intro he
    obtain ⟨cs, avs, h1, h2, h3, r', hv, hR⟩ := results_sound hi' _ he
    have hrun : ∃ v, (results fn a'.tmps).run S.C.P w' = .ok v w' ∧ RA S.C w' Φ' H' v (res1 avs) := by
      have hm : (fn.results.mapM (fun x => match x with | .tmp t => pure (a'.tmps.getD t undef) | .cell x t => do loadVar t (← asAddr (a'.tmps.getD x undef)) : ResultVar → Sem Value)).run S.C.P w' = .ok cs.toArray w' := by
        rw [Array.mapM_eq_mapM_toList]
        simp only [Sem.run_map, h1, Result.andThen_ok]
      refine ⟨if hs : cs.toArray.size = 1 then cs.toArray[0] else .tuple cs.toArray, ?_, ?_⟩
      · have e1 := congrArg (fun r => Result.andThen r (fun (vs : Array Value) w'' => (pure (if h : vs.size = 1 then vs[0] else .tuple vs) : Sem Value).run S.C.P w'')) hm
        simp only [Result.andThen_ok, Sem.run_pure] at e1
        refine Eq.trans ?_ e1
        unfold results
        rw [Sem.run_bind]
        rfl
      · by_cases hs : cs.toArray.size = 1
        · rw [dif_pos hs]
          have hc1 : cs.length = 1 := by simpa using hs
          obtain ⟨x, hx⟩ := List.length_eq_one_iff.1 hc1
          obtain ⟨y, hy⟩ := List.length_eq_one_iff.1 (h2 ▸ hc1 : avs.length = 1)
          subst hx; subst hy
          exact h3 0 x y (by simp) (by simp)
        · rw [dif_neg hs]
          have : res1 avs = .tup avs := by
            unfold res1
            split
            · rename_i v; simp at h2; simp [h2] at hs
            · rfl
          rw [this]
          exact .tup avs cs.toArray (by simpa using h2) (fun i v a g1 g2 => h3 i v a (by simpa using g1) g2)
    obtain ⟨v, hrun, hra⟩ := hrun
    refine ⟨hi'.defers, v, hrun, ?_⟩
    have outOk : ∀ (i : Nat) v a, vs[i]? = some v → (outsFrom σ' S.n args.length)[i]? = some a → RA S.C w' Φ' H' v a := by
      intro i v a g1 g2
      rw [outsFrom_get] at g2
      split at g2
      · simp only [Option.some.injEq] at g2
        have := hi'.env (S.n + i)
        rw [g2] at this
        simp only [cellv] at this
        have hng : ¬ S.n + i < S.n := by omega
        simp only [hng, if_false, Nat.add_sub_cancel_left] at this
        have hv : vs.getD i undef = v := by simp [g1]
        rw [hv] at this
        exact this
      · cases g2
    cases fz with
    | false =>
      simp only [Bool.false_eq_true, if_false, List.map_id'] at hv hR
      exact ⟨v, r', _, Φ', H', rfl, hR, hi'.hi, hi'.G, hra.view hv, outOk, hi'.fr⟩
    | true =>
      simp only [if_true] at hv hR
      have inv2 := hi'.frz (among (res1 avs).tags)
      refine ⟨v, r', _, _, _, rfl, hR, inv2.hi, inv2.G, (RA.frz hi'.hi hra).view hv, fun i v a g1 g2 => ?_, inv2.fr⟩
      rw [List.getElem?_map, Option.map_eq_some_iff] at g2
      obtain ⟨x, hx, rfl⟩ := g2
      exact RA.frz hi'.hi (outOk i v x g1 hx)
  cases ex with
  | normal => exact fin hσ
  | ret => exact fin hσ
  | exit id => exact hσ.elim

theorem fun_sound (good : Good S) {f : FuncId} {fn : Func} {c : Code} (hf : S.C.P.funcs[f]? = some fn) (hb : fn.body = some c) (hn : S.n = fn.ntmps) {args : List AV} (hna : args.length ≤ fn.ntmps) (fz : Bool) {R : AV → List AV → Prop}
    (h : wFun S fz fn.results.toList c args R) : Okp S.C f args R :=
  fun_leads hf hb hn hna fz (fun e QQ Φ H a w inv hq => code_sound good c 0 h inv hq)
end
end Go.VS
namespace Go.VS
open Go Go.RowKit
set_option linter.unusedVariables false
set_option linter.unusedSimpArgs false

/-- What a nil leaf of a result is taken for. -/
inductive Cn where
  | keep
  | own (t : TypeId)
  | list (e : Nat)
def canL (k : Nat) (f : Cn) : LV → LV
  | .d .nil => match f with | .keep => .d .nil | .own t => .own (.loc k .nil) t [] | .list e => .d (.list e [])
  | .own (.var _) t _ => .own (.loc k .nil) t []
  | l => l
def nilsL (k : Nat) (f : Cn) : LV → List (Nat × TypeId)
  | .d .nil => match f with | .own t => [(k, t)] | _ => []
  | .own (.var _) t _ => [(k, t)]
  | _ => []
def locsL (k : Nat) : LV → List (Tag × Nat)
  | .own (.loc d τ) _ _ => [(.loc d τ, k)]
  | .ptr (.loc d τ) _ _ => [(.loc d τ, k)]
  | _ => []
def canLs : Nat → List Cn → List LV → List LV
  | _, _, [] => []
  | k, cs, l :: r => canL k (cs.headD .keep) l :: canLs (k + 1) cs.tail r
def nilsLs : Nat → List Cn → List LV → List (Nat × TypeId)
  | _, _, [] => []
  | k, cs, l :: r => nilsL k (cs.headD .keep) l ++ nilsLs (k + 1) cs.tail r
def locsLs : Nat → List LV → List (Tag × Nat)
  | _, [] => []
  | k, l :: r => locsL k l ++ locsLs (k + 1) r
def canVs : Nat → List Cn → List AV → List AV
  | _, _, [] => []
  | k, cs, .one l :: r => .one (canL k (cs.headD .keep) l) :: canVs (k + 1) cs.tail r
  | k, cs, .agg ls :: r => .agg (canLs k cs ls) :: canVs (k + ls.length) (cs.drop ls.length) r
  | k, cs, .tup vs :: r => .tup vs :: canVs k cs r
def nilsVs : Nat → List Cn → List AV → List (Nat × TypeId)
  | _, _, [] => []
  | k, cs, .one l :: r => nilsL k (cs.headD .keep) l ++ nilsVs (k + 1) cs.tail r
  | k, cs, .agg ls :: r => nilsLs k cs ls ++ nilsVs (k + ls.length) (cs.drop ls.length) r
  | k, cs, .tup vs :: r => nilsVs k cs r
def locsVs : Nat → List AV → List (Tag × Nat)
  | _, [] => []
  | k, .one l :: r => locsL k l ++ locsVs (k + 1) r
  | k, .agg ls :: r => locsLs k ls ++ locsVs (k + ls.length) r
  | k, .tup vs :: r => locsVs k r
def canA (cs : List Cn) : AV → AV
  | .one l => .one (canL 0 (cs.headD .keep) l)
  | .agg ls => .agg (canLs 0 cs ls)
  | .tup vs => .tup (canVs 0 cs vs)
def nilsA (cs : List Cn) : AV → List (Nat × TypeId)
  | .one l => nilsL 0 (cs.headD .keep) l
  | .agg ls => nilsLs 0 cs ls
  | .tup vs => nilsVs 0 cs vs
def locsA : AV → List (Tag × Nat)
  | .one l => locsL 0 l
  | .agg ls => locsLs 0 ls
  | .tup vs => locsVs 0 vs
def lookP : List (Tag × Nat) → Tag → Option Nat
  | [], _ => none
  | (g, i) :: r, h => if g = h then some i else lookP r h
def lookI : List (Nat × TypeId) → Nat → Option TypeId
  | [], _ => none
  | (g, i) :: r, h => if g = h then some i else lookI r h
def far : Tag → Tag
  | .par x => .par x
  | .var x => .var x
  | g => .loc 0 (.loc 0 g)
def rho (L : List (Tag × Nat)) (g : Tag) : Tag :=
  match lookP L g with
  | some i => .loc i .nil
  | none => far g

theorem lookP_mem : ∀ {L : List (Tag × Nat)} {g : Tag} {i : Nat}, lookP L g = some i → (g, i) ∈ L
  | [], g, i, h => by cases h
  | (x, j) :: r, g, i, h => by
    simp only [lookP] at h
    split at h
    · rename_i hx; subst hx; injection h with h; subst h; exact List.mem_cons_self
    · exact List.mem_cons_of_mem _ (lookP_mem h)
theorem lookI_mem : ∀ {L : List (Nat × TypeId)} {g : Nat} {i : TypeId}, (L.map Prod.fst).Nodup → (g, i) ∈ L → lookI L g = some i
  | [], g, i, _, h => by cases h
  | (x, j) :: r, g, i, hn, h => by
    simp only [List.map_cons, List.nodup_cons] at hn
    simp only [lookI]
    rcases List.mem_cons.1 h with e | h
    · injection e with e1 e2; subst e1; subst e2; simp
    · have : x ≠ g := fun e => by subst e; exact hn.1 (List.mem_map_of_mem (f := Prod.fst) h)
      rw [if_neg this]
      exact lookI_mem hn.2 h
def Tag.isLoc : Tag → Bool
  | .loc _ _ => true
  | _ => false
theorem locsL_loc {k : Nat} {l : LV} {p : Tag × Nat} (h : p ∈ locsL k l) : p.1.isLoc = true := by
  unfold locsL at h
  split at h
  · simp at h; subst h; rfl
  · simp at h; subst h; rfl
  · cases h
theorem locsLs_loc : ∀ {ls : List LV} {k : Nat} {p : Tag × Nat}, p ∈ locsLs k ls → p.1.isLoc = true
  | [], k, p, h => by cases h
  | l :: r, k, p, h => by
    simp only [locsLs, List.mem_append] at h
    exact h.elim locsL_loc locsLs_loc
theorem locsVs_loc : ∀ {ls : List AV} {k : Nat} {p : Tag × Nat}, p ∈ locsVs k ls → p.1.isLoc = true
  | [], k, p, h => by cases h
  | .one l :: r, k, p, h => by
    simp only [locsVs, List.mem_append] at h
    exact h.elim locsL_loc locsVs_loc
  | .agg l :: r, k, p, h => by
    simp only [locsVs, List.mem_append] at h
    exact h.elim locsLs_loc locsVs_loc
  | .tup l :: r, k, p, h => by
    simp only [locsVs] at h
    exact locsVs_loc h
theorem locsA_loc {a : AV} {p : Tag × Nat} (h : p ∈ locsA a) : p.1.isLoc = true := by
  cases a with
  | one l => exact locsL_loc h
  | agg l => exact locsLs_loc h
  | tup l => exact locsVs_loc h

section
variable {L : List (Tag × Nat)}
theorem rho_inj (hl : ∀ p, p ∈ L → p.1.isLoc = true) (hn : (L.map Prod.snd).Nodup) {g g' : Tag} (h : rho L g = rho L g') : g = g' := by
  unfold rho at h
  cases h1 : lookP L g with
  | some i =>
    rw [h1] at h
    cases h2 : lookP L g' with
    | some j =>
      rw [h2] at h
      simp only at h
      injection h with h _
      subst h
      have m1 := lookP_mem h1
      have m2 := lookP_mem h2
      clear h1 h2
      induction L with
      | nil => cases m1
      | cons p r ih =>
        simp only [List.map_cons, List.nodup_cons] at hn
        rcases List.mem_cons.1 m1 with e1 | m1
        · rcases List.mem_cons.1 m2 with e2 | m2
          · rw [← e1] at e2; injection e2 with e2 _; exact e2.symm
          · exact absurd (show p.2 ∈ r.map Prod.snd by rw [← e1]; exact List.mem_map.2 ⟨_, m2, rfl⟩) hn.1
        · rcases List.mem_cons.1 m2 with e2 | m2
          · exact absurd (show p.2 ∈ r.map Prod.snd by rw [← e2]; exact List.mem_map.2 ⟨_, m1, rfl⟩) hn.1
          · exact ih (fun p hp => hl p (List.mem_cons_of_mem _ hp)) hn.2 m1 m2
    | none =>
      rw [h2] at h
      cases g' <;> simp [far] at h
  | none =>
    rw [h1] at h
    cases h2 : lookP L g' with
    | some j =>
      rw [h2] at h
      cases g <;> simp [far] at h
    | none =>
      rw [h2] at h
      cases g <;> cases g' <;> simp [far] at h ⊢ <;> exact h
theorem rho_par (hl : ∀ p, p ∈ L → p.1.isLoc = true) (x : Tag) : rho L (.par x) = .par x := by
  unfold rho
  cases h1 : lookP L (.par x) with
  | some i => have := hl _ (lookP_mem h1); cases this
  | none => rfl
theorem rho_var (hl : ∀ p, p ∈ L → p.1.isLoc = true) (x : Nat) : rho L (.var x) = .var x := by
  unfold rho
  cases h1 : lookP L (.var x) with
  | some i => have := hl _ (lookP_mem h1); cases this
  | none => rfl
theorem rho_isVar (hl : ∀ p, p ∈ L → p.1.isLoc = true) (g : Tag) : (rho L g).isVar = g.isVar := by
  unfold rho
  cases h1 : lookP L g with
  | some i =>
    have := hl _ (lookP_mem h1)
    cases g <;> first | rfl | cases this
  | none => cases g <;> rfl
theorem rho_loc {g : Tag} {i : Nat} (h : rho L g = .loc i .nil) : i ∈ L.map Prod.snd := by
  unfold rho at h
  cases h1 : lookP L g with
  | some j =>
    rw [h1] at h
    simp only at h
    injection h with h _
    subst h
    exact List.mem_map_of_mem (f := Prod.snd) (lookP_mem h1)
  | none =>
    rw [h1] at h
    cases g <;> simp [far] at h
end

def nilH (N : List (Nat × TypeId)) : Tag → TI
  | .loc i .nil => match lookI N i with | some t => .arr (.slice none 0 0) t [] | none => .none
  | _ => .none
def lookB : List (Nat × List Cn) → Nat → Option (List Cn)
  | [], _ => none
  | (p, cs) :: r, q => if p = q then some cs else lookB r q
/-- A box's cells, where the box has the canonical name g. -/
def boxC (B : List (Nat × List Cn)) (g : Tag) (c : List LV) : List LV :=
  match g with
  | .loc p .nil => match lookB B p with | some cs => canLs (p + 1) cs c | none => c
  | _ => c
def boxL (B : List (Nat × List Cn)) : LV → LV
  | .ptr g o c => .ptr g o (boxC B g c)
  | l => l
def phi (L : List (Tag × Nat)) (B : List (Nat × List Cn)) (l : LV) : LV := boxL B (ren (rho L) l)
def boxTI (B : List (Nat × List Cn)) (g : Tag) : TI → TI
  | .box b c => .box b (boxC B g c)
  | i => i
theorem boxTI_foot (B : List (Nat × List Cn)) (g : Tag) (i : TI) : (boxTI B g i).foot = i.foot := by cases i <;> rfl
theorem boxTI_none {B : List (Nat × List Cn)} {g : Tag} {i : TI} (h : boxTI B g i = .none) : i = .none := by cases i <;> first | rfl | cases h
open Classical in
noncomputable def canH (L : List (Tag × Nat)) (N : List (Nat × TypeId)) (B : List (Nat × List Cn)) (H : Tag → TI) (g' : Tag) : TI :=
  if h : ∃ g, rho L g = g' ∧ H g ≠ .none then boxTI B g' ((H (Classical.choose h)).up (phi L B))
  else nilH N g'

section
variable {C : Ctx} {w : World} {Φ : Nat → Prop} {H : Tag → TI} {L : List (Tag × Nat)} {N : List (Nat × TypeId)} {B : List (Nat × List Cn)}
theorem canH_rho (hl : ∀ p, p ∈ L → p.1.isLoc = true) (hn : (L.map Prod.snd).Nodup) {g : Tag} (hg : H g ≠ .none) : canH L N B H (rho L g) = boxTI B (rho L g) ((H g).up (phi L B)) := by
  have h : ∃ g', rho L g' = rho L g ∧ H g' ≠ .none := ⟨g, rfl, hg⟩
  unfold canH
  rw [dif_pos h]
  have := rho_inj hl hn (Classical.choose_spec h).1
  rw [this]
theorem canH_some {g' : Tag} (h : canH L N B H g' ≠ .none) : (∃ g, g' = rho L g ∧ H g ≠ .none ∧ canH L N B H g' = boxTI B g' ((H g).up (phi L B))) ∨ (∃ i t, g' = .loc i .nil ∧ canH L N B H g' = .arr (.slice none 0 0) t []) := by
  by_cases hx : ∃ g, rho L g = g' ∧ H g ≠ .none
  · left
    refine ⟨Classical.choose hx, (Classical.choose_spec hx).1.symm, (Classical.choose_spec hx).2, ?_⟩
    unfold canH
    rw [dif_pos hx]
  · right
    unfold canH at h ⊢
    rw [dif_neg hx] at h ⊢
    clear hx
    unfold nilH at h ⊢
    split at h
    · next i =>
      split at h
      · next t ht => exact ⟨i, t, rfl, rfl⟩
      · exact absurd rfl h
    · exact absurd rfl h
theorem canH_nil {i : Nat} {t : TypeId} (hi : i ∉ L.map Prod.snd) (h : lookI N i = some t) : canH L N B H (.loc i .nil) = .arr (.slice none 0 0) t [] := by
  have hx : ¬ ∃ g, rho L g = .loc i .nil ∧ H g ≠ .none := fun ⟨g, h1, _⟩ => hi (rho_loc h1)
  unfold canH
  rw [dif_neg hx]
  simp only [nilH, h]

theorem canFits (hi : HInv C w Φ H) (hl : ∀ p, p ∈ L → p.1.isLoc = true) (hn : (L.map Prod.snd).Nodup) : Fits C w w Φ Φ H (canH L N B H) (phi L B) := by
  refine ⟨fun _ hb => hb, fun _ _ => rfl, fun g t xs v hg h1 => ?_, fun g t hg => .own0 _ t (by rw [rho_isVar hl]; exact hg), fun g off c b hg => ?_, fun g t xs i off b n cap hg hlt => ?_, fun g k x F v hg h1 => ?_⟩
  · exact .own _ t xs v (by rw [canH_rho hl hn (by rw [hg]; simp), hg]; rfl) h1
  · exact .ptr _ off _ b (by rw [canH_rho hl hn (by rw [hg]; simp), hg]; rfl)
  · exact .eptr _ t xs i off b n cap (by rw [canH_rho hl hn (by rw [hg]; simp), hg]; rfl) hlt
  · exact .obj _ k x F v (by rw [canH_rho hl hn (by rw [hg]; simp), hg]; rfl) h1
theorem canFoot (g' : Tag) (b : Nat) (hb : b ∈ (canH L N B H g').foot) : ∃ g, g' = rho L g ∧ b ∈ (H g).foot := by
  have : canH L N B H g' ≠ .none := fun e1 => by rw [e1] at hb; simp [TI.foot] at hb
  rcases canH_some this with ⟨g, h1, _, h2⟩ | ⟨i, t, _, h2⟩
  · exact ⟨g, h1, by rw [h2, boxTI_foot, TI.foot_up] at hb; exact hb⟩
  · rw [h2] at hb; simp [TI.foot, Value.ownBlock] at hb
theorem canFr {w0 : World} {Φ0 : Nat → Prop} {H0 : Tag → TI} (fr : Fr w0 Φ0 H0 w Φ H) (hl : ∀ p, p ∈ L → p.1.isLoc = true) (hn : (L.map Prod.snd).Nodup) : Fr w0 Φ0 H0 w Φ (canH L N B H) :=
  { fr with
    foot := fun g b hb => by
      obtain ⟨x, rfl, hx⟩ := canFoot g b hb
      exact fr.foot x b hx
    par := fun g hg => by
      have h0 := fr.par g hg
      apply Classical.byContradiction
      intro hne
      rcases canH_some hne with ⟨x, h1, h2, _⟩ | ⟨i, t, h1, _⟩
      · rw [← rho_par hl] at h1
        have := rho_inj hl hn h1
        rw [← this] at h2
        exact h2 h0
      · cases h1 }

theorem nilsL_up {k : Nat} {f : Cn} (hl : ∀ p, p ∈ L → p.1.isLoc = true) (l : LV) : nilsL k f (l.up (phi L B)) = nilsL k f l := by
  cases l with
  | own g t xs =>
    cases g with
    | var x => simp only [LV.up, phi, ren, rho_var hl, boxL]
    | par x => simp only [LV.up, phi, ren, rho_par hl, boxL, nilsL]
    | loc d τ =>
      have : (rho L (.loc d τ)).isVar = false := by rw [rho_isVar hl]; rfl
      simp only [LV.up, phi, ren, boxL, nilsL]
      split
      · rename_i h; injection h
      · rename_i h; injection h with h; rw [h] at this; cases this
      · rfl
    | nil =>
      have : (rho L .nil).isVar = false := by rw [rho_isVar hl]; rfl
      simp only [LV.up, phi, ren, boxL, nilsL]
      split
      · rename_i h; injection h
      · rename_i h; injection h with h; rw [h] at this; cases this
      · rfl
  | _ => first | rfl | (simp only [LV.up, phi, ren, boxL, nilsL])
theorem nilsLs_up (hl : ∀ p, p ∈ L → p.1.isLoc = true) : ∀ (ls : List LV) (k : Nat) (cs : List Cn), nilsLs k cs (LV.ups (phi L B) ls) = nilsLs k cs ls
  | [], k, cs => rfl
  | l :: r, k, cs => by simp only [LV.ups, nilsLs, nilsL_up hl, nilsLs_up hl r]

theorem RL.can {v : Value} {l : LV} {k : Nat} {f : Cn} (h : RL C w Φ (canH L N B H) v l) (hk : ∀ t, (k, t) ∈ nilsL k f l → canH L N B H (.loc k .nil) = .arr (.slice none 0 0) t []) (hnv : ∀ g, g.isVar = true → canH L N B H g = .none) : RL C w Φ (canH L N B H) v (canL k f l) := by
  unfold canL
  split
  · have hv := h.flat
    cases hv
    cases f with
    | keep => exact h
    | own t => exact .own _ t [] _ (hk t (by simp [nilsL])) rfl
    | list e => exact .d _ _ (.nil' e)
  · rename_i x t xs
    cases h with
    | own _ _ _ _ hh _ => rw [hnv _ rfl] at hh; cases hh
    | own0 => exact .own _ t [] _ (hk t (by simp [nilsL])) rfl
  · exact h
theorem canLs_get : ∀ (ls : List LV) (k : Nat) (cs : List Cn) (i : Nat), (canLs k cs ls)[i]? = (ls[i]?).map (canL (k + i) (cs.getD i .keep))
  | [], k, cs, i => by simp [canLs]
  | l :: r, k, cs, 0 => by cases cs <;> simp [canLs]
  | l :: r, k, cs, i + 1 => by
    simp only [canLs, List.getElem?_cons_succ, canLs_get r (k + 1) cs.tail i]
    rw [show k + 1 + i = k + (i + 1) by omega]
    congr 2
    cases cs <;> simp
theorem nilsLs_mem : ∀ (ls : List LV) (k : Nat) (cs : List Cn) (i : Nat) (l : LV), ls[i]? = some l → ∀ p, p ∈ nilsL (k + i) (cs.getD i .keep) l → p ∈ nilsLs k cs ls
  | [], k, cs, i, l, h => by simp at h
  | x :: r, k, cs, 0, l, h => by
    simp at h; subst h
    intro p hp
    simp only [nilsLs, List.mem_append]
    left
    cases cs <;> simpa using hp
  | x :: r, k, cs, i + 1, l, h => by
    intro p hp
    simp only [nilsLs, List.mem_append]
    right
    refine nilsLs_mem r (k + 1) cs.tail i l (by simpa using h) p ?_
    rw [show k + 1 + i = k + (i + 1) by omega]
    cases cs <;> simpa using hp
theorem canLs_length : ∀ (ls : List LV) (k : Nat) (cs : List Cn), (canLs k cs ls).length = ls.length
  | [], _, _ => rfl
  | l :: r, k, cs => by simp [canLs, canLs_length r]
theorem nilsL_k {k : Nat} {f : Cn} {l : LV} {p : Nat × TypeId} (h : p ∈ nilsL k f l) : p.1 = k := by
  unfold nilsL at h
  split at h
  · split at h
    · simp at h; rw [h]
    · cases h
  · simp at h; rw [h]
  · cases h
theorem canHInv (hi : HInv C w Φ H) (hl : ∀ p, p ∈ L → p.1.isLoc = true) (hn : (L.map Prod.snd).Nodup)
    (hB : ∀ g p cs b c, rho L g = .loc p .nil → lookB B p = some cs → H g = .box b c → ∀ i t, (i, t) ∈ nilsLs (p + 1) cs c → canH L N B H (.loc i .nil) = .arr (.slice none 0 0) t []) : HInv C w Φ (canH L N B H) := by
  have hnv : ∀ g, g.isVar = true → canH L N B H g = .none := fun g hg => by
    by_cases hnn : canH L N B H g = .none
    · exact hnn
    · rcases canH_some hnn with ⟨x, rfl, hne, hx⟩ | ⟨i, t, rfl, hx⟩
      · exact absurd (hi.novar x (by rw [← rho_isVar hl]; exact hg)) hne
      · cases hg
  exact
  { disj := fun g g' b h1 h2 => by
      obtain ⟨x, rfl, hx⟩ := canFoot g b h1
      obtain ⟨y, rfl, hy⟩ := canFoot g' b h2
      rw [hi.disj x y b hx hy]
    nophi := fun g b h1 => by
      obtain ⟨x, rfl, hx⟩ := canFoot g b h1
      exact hi.nophi x b hx
    lt := fun g b h1 => by
      obtain ⟨x, rfl, hx⟩ := canFoot g b h1
      exact hi.lt x b hx
    phi := hi.phi
    ok := fun g => by
      by_cases hg : canH L N B H g = .none
      · rw [hg]; exact .none
      · rcases canH_some hg with ⟨x, rfl, hne, hx⟩ | ⟨i, t, rfl, hx⟩
        · rw [hx]
          have hok := (hi.ok x).up (canFits (N := N) (B := B) hi hl hn) (fun _ _ => rfl)
          cases hh : H x with
          | box b c =>
            rw [hh] at hok
            simp only [TI.up, boxTI] at hok ⊢
            cases hok with
            | box _ _ cur ty hc hsz hr =>
              unfold boxC
              split
              · rename_i p hp
                split
                · rename_i cs hcs
                  refine .box b _ cur ty hc (by rw [canLs_length]; exact hsz) (fun j l v h1 h2 => ?_)
                  rw [canLs_get, Option.map_eq_some_iff] at h1
                  obtain ⟨l0, h0, rfl⟩ := h1
                  refine (hr j l0 v h0 h2).can (fun t ht => ?_) hnv
                  refine hB x p cs b c hp hcs hh _ t ?_
                  have := nilsLs_mem _ (p + 1) cs j l0 h0 _ ht
                  rwa [nilsLs_up hl] at this
                · exact .box b _ cur ty hc hsz hr
              · exact .box b _ cur ty hc hsz hr
          | none => rw [hh] at hok; exact hok
          | arr v t xs => rw [hh] at hok; exact hok
          | ob F k v x => rw [hh] at hok; exact hok
        · rw [hx]
          exact .arr _ t [] [] (World.ownsRow_nil _ _ _ _) (fun r hr => by cases hr) (fun i r j x u h1 => by simp at h1)
    novar := hnv }
theorem RA.canAgg {ls : List LV} {v : Value} {k : Nat} {cs : List Cn} (h : RA C w Φ (canH L N B H) v (.agg ls)) (hk : ∀ i t, (i, t) ∈ nilsLs k cs ls → canH L N B H (.loc i .nil) = .arr (.slice none 0 0) t []) (hnv : ∀ g, g.isVar = true → canH L N B H g = .none) : RA C w Φ (canH L N B H) v (.agg (canLs k cs ls)) := by
  cases h with
  | agg _ vs hn hh =>
    refine .agg _ vs (by rw [canLs_length]; exact hn) (fun i v l h1 h2 => ?_)
    rw [canLs_get, Option.map_eq_some_iff] at h2
    obtain ⟨l0, h0, rfl⟩ := h2
    refine (hh i v l0 h1 h0).can (fun t ht => hk _ t ?_) hnv
    exact nilsLs_mem ls k cs i l0 h0 _ ht
theorem RA.canOne {l : LV} {v : Value} {k : Nat} {f : Cn} (h : RA C w Φ (canH L N B H) v (.one l)) (hk : ∀ i t, (i, t) ∈ nilsL k f l → canH L N B H (.loc i .nil) = .arr (.slice none 0 0) t []) (hnv : ∀ g, g.isVar = true → canH L N B H g = .none) : RA C w Φ (canH L N B H) v (.one (canL k f l)) := by
  cases h with
  | one _ _ hl => exact .one _ _ (hl.can (fun t ht => hk _ t ht) hnv)
  | any _ => exact .any _
theorem canVs_get : ∀ (vs : List AV) (k : Nat) (cs : List Cn), (∀ i t, (i, t) ∈ nilsVs k cs vs → canH L N B H (.loc i .nil) = .arr (.slice none 0 0) t []) → (∀ g, g.isVar = true → canH L N B H g = .none) →
    (canVs k cs vs).length = vs.length ∧ ∀ (i : Nat) (v : Value) a, (canVs k cs vs)[i]? = some a → (∀ b, vs[i]? = some b → RA C w Φ (canH L N B H) v b) → RA C w Φ (canH L N B H) v a
  | [], k, cs, hk, hnv => ⟨rfl, fun i v a h => by simp [canVs] at h⟩
  | .one l :: r, k, cs, hk, hnv => by
    obtain ⟨h1, h2⟩ := canVs_get r (k + 1) cs.tail (fun i t ht => hk i t (by simp [nilsVs, ht])) hnv
    refine ⟨by simp [canVs, h1], fun i v a ha hb => ?_⟩
    cases i with
    | zero => simp [canVs] at ha; subst ha; exact (hb _ rfl).canOne (fun i t ht => hk i t (by simp [nilsVs, ht])) hnv
    | succ i => exact h2 i v a (by simpa [canVs] using ha) (fun b hb' => hb b (by simpa using hb'))
  | .agg l :: r, k, cs, hk, hnv => by
    obtain ⟨h1, h2⟩ := canVs_get r (k + l.length) (cs.drop l.length) (fun i t ht => hk i t (by simp [nilsVs, ht])) hnv
    refine ⟨by simp [canVs, h1], fun i v a ha hb => ?_⟩
    cases i with
    | zero => simp [canVs] at ha; subst ha; exact (hb _ rfl).canAgg (fun i t ht => hk i t (by simp [nilsVs, ht])) hnv
    | succ i => exact h2 i v a (by simpa [canVs] using ha) (fun b hb' => hb b (by simpa using hb'))
  | .tup l :: r, k, cs, hk, hnv => by
    obtain ⟨h1, h2⟩ := canVs_get r k cs (fun i t ht => hk i t (by simp [nilsVs, ht])) hnv
    refine ⟨by simp [canVs, h1], fun i v a ha hb => ?_⟩
    cases i with
    | zero => simp [canVs] at ha; subst ha; exact hb _ rfl
    | succ i => exact h2 i v a (by simpa [canVs] using ha) (fun b hb' => hb b (by simpa using hb'))
theorem RA.can {a : AV} {v : Value} {cs : List Cn} (h : RA C w Φ (canH L N B H) v a) (hk : ∀ i t, (i, t) ∈ nilsA cs a → canH L N B H (.loc i .nil) = .arr (.slice none 0 0) t []) (hnv : ∀ g, g.isVar = true → canH L N B H g = .none) : RA C w Φ (canH L N B H) v (canA cs a) := by
  cases a with
  | one l => exact h.canOne hk hnv
  | agg l => exact h.canAgg hk hnv
  | tup l =>
    cases h with
    | tup _ vs hn hh =>
      obtain ⟨h1, h2⟩ := canVs_get (C := C) (w := w) (Φ := Φ) l 0 cs hk hnv
      refine .tup _ vs (by omega) (fun i v a g1 g2 => h2 i v a g2 (fun b hb => hh i v b g1 hb))

def canR (cs : List Cn) (R : AV → List AV → Prop) (r0 : AV) (o0 : List AV) : Prop :=
  ((locsA r0).map Prod.snd ++ (nilsA cs (r0.up (phi (locsA r0) []))).map Prod.fst).Nodup ∧ R (canA cs (r0.up (phi (locsA r0) []))) (o0.map (AV.up (phi (locsA r0) [])))
theorem Okp.canon {n : FuncId} {args : List AV} {R : AV → List AV → Prop} (cs : List Cn) (h : Okp C n args (canR cs R)) : Okp C n args R := by
  intro w Φ H vs hG hi hs hargs
  refine (h w Φ H vs hG hi hs hargs).mono ?_
  rintro e w' ⟨v, r, o, Φ', H', rfl, ⟨hnd, hR⟩, hi', hG', hr, ho, fr⟩
  rw [List.nodup_append] at hnd
  obtain ⟨n1, n2, n3⟩ := hnd
  have hl : ∀ p, p ∈ locsA r → p.1.isLoc = true := fun p hp => locsA_loc hp
  have hiN := canHInv (N := nilsA cs (r.up (phi (locsA r) []))) (B := []) hi' hl n1 (fun g p cs b c _ h => by cases h)
  have f := canFits (N := nilsA cs (r.up (phi (locsA r) []))) (B := []) hi' hl n1
  refine ⟨v, _, _, Φ', canH (locsA r) (nilsA cs (r.up (phi (locsA r) []))) [] H', rfl, hR, hiN, hG', ?_, fun i v a g1 g2 => ?_, canFr fr hl n1⟩
  · refine (hr.up f).can (fun i t ht => ?_) hiN.novar
    refine canH_nil (fun hm => n3 i hm i (List.mem_map_of_mem (f := Prod.fst) ht) rfl) (lookI_mem n2 ht)
  · rw [List.getElem?_map, Option.map_eq_some_iff] at g2
    obtain ⟨x, hx, rfl⟩ := g2
    exact (ho i v x g1 hx).up f
end

theorem viewL_self (l : LV) : viewL l l := .inl rfl
theorem viewLs_self : ∀ l : List LV, viewLs l l
  | [] => trivial
  | l :: r => ⟨viewL_self l, viewLs_self r⟩
theorem view1_self (a : AV) : view1 a a := by
  cases a with
  | one l => exact viewL_self l
  | agg l => exact viewLs_self l
  | tup l => rfl
theorem views_self : ∀ l : List AV, views l l
  | [] => trivial
  | l :: r => ⟨view1_self l, views_self r⟩
theorem view_self (a : AV) : view a a := by
  cases a with
  | one l => exact viewL_self l
  | agg l => exact viewLs_self l
  | tup l => exact views_self l
theorem ex_can {cs : List Cn} {R : AV → List AV → Prop} {a : AV} {o : List AV} (h : canR cs R a o) : ∃ r', view a r' ∧ canR cs R r' o := ⟨a, view_self a, h⟩

section
variable {S : Sys}
def wEndC (cs : List Cn) (fz : Bool) (res : List ResultVar) (k : Nat) (R : AV → List AV → Prop) (σ : Env) : Prop :=
  wResults S σ res fun vs => canR cs R (if fz then (res1 vs).up (frz S.C.P (among (res1 vs).tags)) else res1 vs) ((outsFrom σ S.n k).map fun o => if fz then o.up (frz S.C.P (among (res1 vs).tags)) else o)
theorem wLoad_mono {t : TypeId} {a : AV} {K K' : AV → Prop} (hK : ∀ v, K v → K' v) (h : wLoad S t a K) : wLoad S t a K' := by
  have part : ∀ c off, wPart S t c off K → wPart S t c off K' := by
    intro c off ⟨h1, h2, h3⟩
    refine ⟨h1, h2, ?_⟩
    split at h3
    · exact hK _ h3
    · split at h3
      · exact hK _ h3
      · exact h3
    · exact h3
  unfold wLoad at h ⊢
  split at h
  · exact part _ _ h
  · exact part _ _ h
  · exact part _ _ h
  · exact h.elim
theorem wResults_mono {σ : Env} : ∀ (res : List ResultVar) {K K' : List AV → Prop}, (∀ v, K v → K' v) → wResults S σ res K → wResults S σ res K'
  | [], K, K', hK, h => hK _ h
  | .tmp t :: r, K, K', hK, h => wResults_mono r (fun v hv => hK _ hv) h
  | .cell x ty :: r, K, K', hK, h => wLoad_mono (fun v hv => wResults_mono r (fun vs hvs => hK _ hvs) hv) h
theorem wEnd_can {cs : List Cn} {fz : Bool} {res : List ResultVar} {k : Nat} {R : AV → List AV → Prop} {σ : Env} (h : wEndC (S := S) cs fz res k R σ) : wEnd S fz res k (canR cs R) σ :=
  wResults_mono res (fun vs hv => ex_can hv) h
end

/-! ### whole environments -/
/-- Of a slot: the place from which its names are counted, and what its leaves are taken for. -/
abbrev Fl := List (Nat × Nat × List Cn)
def lookF : Fl → Nat → Option (Nat × List Cn)
  | [], _ => none
  | (t, p) :: r, x => if t = x then some p else lookF r x
def locE (k : Nat) : AV → List (Tag × Nat)
  | .one (.ptr (.loc d τ) _ c) => (.loc d τ, k) :: locsLs (k + 1) c
  | .one l => locsL k l
  | .agg ls => locsLs k ls
  | .tup _ => []
def nilE (k : Nat) (cs : List Cn) : AV → List (Nat × TypeId)
  | .one (.ptr (.loc _ _) _ c) => nilsLs (k + 1) cs c
  | .one l => nilsL k (cs.headD .keep) l
  | .agg ls => nilsLs k cs ls
  | .tup _ => []
def boxE (k : Nat) (cs : List Cn) : AV → List (Nat × List Cn)
  | .one (.ptr (.loc _ _) _ _) => [(k, cs)]
  | _ => []
def valE (k : Nat) (cs : List Cn) : AV → AV
  | .one (.ptr g o c) => .one (.ptr g o c)
  | .one l => .one (canL k (cs.headD .keep) l)
  | .agg ls => .agg (canLs k cs ls)
  | .tup vs => .tup vs
def locsE (fl : Fl) : Env → List (Tag × Nat)
  | [] => []
  | (t, v) :: r => (match lookF fl t with | some (k, _) => locE k v | none => []) ++ locsE fl r
def nilsE (fl : Fl) : Env → List (Nat × TypeId)
  | [] => []
  | (t, v) :: r => (match lookF fl t with | some (k, cs) => nilE k cs v | none => []) ++ nilsE fl r
def boxesE (fl : Fl) : Env → List (Nat × List Cn)
  | [] => []
  | (t, v) :: r => (match lookF fl t with | some (k, cs) => boxE k cs v | none => []) ++ boxesE fl r
def valsE (fl : Fl) (f : LV → LV) : Env → Env
  | [] => []
  | (t, v) :: r => (t, match lookF fl t with | some (k, cs) => valE k cs (v.up f) | none => v.up f) :: valsE fl f r
def canE (fl : Fl) (σ : Env) : Env := valsE fl (phi (locsE fl σ) (boxesE fl σ)) σ
def canOk (fl : Fl) (σ : Env) : Prop := ((locsE fl σ).map Prod.snd ++ (nilsE fl σ).map Prod.fst).Nodup
/-- Names that are only read from now on. -/
def frzE (P : Program) : List Tag → Env → Env
  | [], σ => σ
  | t :: r, σ => σ.up (frz P (among (t :: r)))
def canO (P : Program) : Option (List Tag × Fl) → Env → Env
  | none, σ => σ
  | some (T, fl), σ => canE fl (frzE P T σ)
def canOOk (P : Program) : Option (List Tag × Fl) → Env → Prop
  | none, _ => True
  | some (T, fl), σ => canOk fl (frzE P T σ)

theorem locE_loc {a : AV} {k : Nat} {p : Tag × Nat} (h : p ∈ locE k a) : p.1.isLoc = true := by
  unfold locE at h
  split at h
  · rcases List.mem_cons.1 h with rfl | h
    · rfl
    · exact locsLs_loc h
  · exact locsL_loc h
  · exact locsLs_loc h
  · cases h
theorem locsE_loc {fl : Fl} : ∀ {σ : Env} {p : Tag × Nat}, p ∈ locsE fl σ → p.1.isLoc = true
  | [], p, h => by cases h
  | (t, v) :: r, p, h => by
    simp only [locsE, List.mem_append] at h
    rcases h with h | h
    · split at h
      · exact locE_loc h
      · cases h
    · exact locsE_loc h
theorem nilsE_mem {fl : Fl} : ∀ {σ : Env} {t : Nat} {v : AV} {k : Nat} {cs : List Cn}, (t, v) ∈ σ → lookF fl t = some (k, cs) → ∀ p, p ∈ nilE k cs v → p ∈ nilsE fl σ
  | [], t, v, k, cs, h => by cases h
  | (t', v') :: r, t, v, k, cs, h => by
    intro hf p hp
    simp only [nilsE, List.mem_append]
    rcases List.mem_cons.1 h with e | h
    · injection e with e1 e2; subst e1; subst e2
      left; rw [hf]; exact hp
    · exact .inr (nilsE_mem h hf p hp)
theorem locsE_mem {fl : Fl} : ∀ {σ : Env} {t : Nat} {v : AV} {k : Nat} {cs : List Cn}, (t, v) ∈ σ → lookF fl t = some (k, cs) → ∀ p, p ∈ locE k v → p ∈ locsE fl σ
  | [], t, v, k, cs, h => by cases h
  | (t', v') :: r, t, v, k, cs, h => by
    intro hf p hp
    simp only [locsE, List.mem_append]
    rcases List.mem_cons.1 h with e | h
    · injection e with e1 e2; subst e1; subst e2
      left; rw [hf]; exact hp
    · exact .inr (locsE_mem h hf p hp)
theorem lookB_mem : ∀ {B : List (Nat × List Cn)} {p : Nat} {cs : List Cn}, lookB B p = some cs → (p, cs) ∈ B
  | [], p, cs, h => by cases h
  | (q, ds) :: r, p, cs, h => by
    simp only [lookB] at h
    split at h
    · rename_i hq; subst hq; injection h with h; subst h; exact List.mem_cons_self
    · exact List.mem_cons_of_mem _ (lookB_mem h)
theorem boxesE_mem {fl : Fl} : ∀ {σ : Env} {p : Nat} {cs : List Cn}, (p, cs) ∈ boxesE fl σ → ∃ t d τ o c, (t, AV.one (.ptr (.loc d τ) o c)) ∈ σ ∧ lookF fl t = some (p, cs)
  | [], p, cs, h => by cases h
  | (t', v') :: r, p, cs, h => by
    simp only [boxesE, List.mem_append] at h
    rcases h with h | h
    · split at h
      · rename_i k cs' hf
        unfold boxE at h
        split at h
        · rename_i d τ o c
          simp only [List.mem_singleton, Prod.mk.injEq] at h
          obtain ⟨rfl, rfl⟩ := h
          exact ⟨t', d, τ, o, c, List.mem_cons_self, hf⟩
        · cases h
      · cases h
    · obtain ⟨t, d, τ, o, c, h1, h2⟩ := boxesE_mem h
      exact ⟨t, d, τ, o, c, List.mem_cons_of_mem _ h1, h2⟩
theorem valsE_get {fl : Fl} {f : LV → LV} : ∀ (σ : Env) (t : Nat), (valsE fl f σ).get t = (match lookF fl t with | some (k, cs) => valE k cs ((σ.get t).up f) | none => (σ.get t).up f) ∨ ((valsE fl f σ).get t = .one .top)
  | [], t => .inr rfl
  | (t', v') :: r, t => by
    simp only [valsE, Env.get]
    by_cases h : t' = t
    · subst h; simp
    · simp only [h, if_false]; exact valsE_get r t
theorem valsE_mem {fl : Fl} {f : LV → LV} : ∀ (σ : Env) (t : Nat), (∃ v, (t, v) ∈ σ ∧ σ.get t = v) ∨ ((valsE fl f σ).get t = .one .top)
  | [], t => .inr rfl
  | (t', v') :: r, t => by
    simp only [valsE, Env.get]
    by_cases h : t' = t
    · subst h; left; exact ⟨v', List.mem_cons_self, by simp⟩
    · simp only [h, if_false]
      rcases valsE_mem (fl := fl) (f := f) r t with ⟨v, h1, h2⟩ | h1
      · exact .inl ⟨v, List.mem_cons_of_mem _ h1, h2⟩
      · exact .inr h1
theorem prune_vis (σ : Env) (l : List Nat) : ∀ p, p ∈ σ.prune l → (σ.prune l).get p.1 = p.2 := by
  intro p hp
  rw [Env.get_prune]
  have : p.1 ∈ l ∧ p.2 = σ.get p.1 := by
    induction l with
    | nil => cases hp
    | cons t r ih =>
      simp only [Env.prune] at hp
      rcases List.mem_cons.1 hp with rfl | hp
      · exact ⟨List.mem_cons_self, rfl⟩
      · exact ⟨List.mem_cons_of_mem _ (ih hp).1, (ih hp).2⟩
  rw [if_pos this.1]
  exact this.2.symm
theorem pos_inj {L : List (Tag × Nat)} (hn : (L.map Prod.snd).Nodup) {g g' : Tag} {i : Nat} (m1 : (g, i) ∈ L) (m2 : (g', i) ∈ L) : g = g' := by
  induction L with
  | nil => cases m1
  | cons p r ih =>
    simp only [List.map_cons, List.nodup_cons] at hn
    rcases List.mem_cons.1 m1 with e1 | m1
    · rcases List.mem_cons.1 m2 with e2 | m2
      · rw [← e1] at e2; injection e2 with e2 _; exact e2.symm
      · exact absurd (show p.2 ∈ r.map Prod.snd by rw [← e1]; exact List.mem_map.2 ⟨_, m2, rfl⟩) hn.1
    · rcases List.mem_cons.1 m2 with e2 | m2
      · exact absurd (show p.2 ∈ r.map Prod.snd by rw [← e2]; exact List.mem_map.2 ⟨_, m1, rfl⟩) hn.1
      · exact ih hn.2 m1 m2

section
variable {S : Sys} {e : Entry} {Φ : Nat → Prop} {H : Tag → TI} {τ : Env} {a : Act} {w : World}
theorem rho_pos {L : List (Tag × Nat)} {g : Tag} {i : Nat} (h : rho L g = .loc i .nil) : (g, i) ∈ L := by
  unfold rho at h
  cases h1 : lookP L g with
  | some j =>
    rw [h1] at h
    simp only at h
    injection h with h _
    subst h
    exact lookP_mem h1
  | none =>
    rw [h1] at h
    cases g <;> simp [far] at h
theorem Inv.can (h : Inv S e Φ H τ a w) (fl : Fl) (hvis : ∀ p, p ∈ τ → τ.get p.1 = p.2) (hnd : canOk fl τ) : ∃ H', Inv S e Φ H' (canE fl τ) a w := by
  unfold canOk at hnd
  rw [List.nodup_append] at hnd
  obtain ⟨n1, n2, n3⟩ := hnd
  have hl : ∀ p, p ∈ locsE fl τ → p.1.isLoc = true := fun p hp => locsE_loc hp
  have hname : ∀ i t, (i, t) ∈ nilsE fl τ → canH (locsE fl τ) (nilsE fl τ) (boxesE fl τ) H (.loc i .nil) = .arr (.slice none 0 0) t [] := fun i t ht =>
    canH_nil (fun hm => n3 i hm i (List.mem_map_of_mem (f := Prod.fst) ht) rfl) (lookI_mem n2 ht)
  have hiN := canHInv (N := nilsE fl τ) (B := boxesE fl τ) h.hi hl n1 (fun g p cs b c h1 h2 h3 i t ht => by
    obtain ⟨x, d, σ', o, c', m1, m2⟩ := boxesE_mem (lookB_mem h2)
    have hx := h.env x
    rw [hvis _ m1] at hx
    have e1 : (Tag.loc d σ', p) ∈ locsE fl τ := locsE_mem m1 m2 _ (by simp [locE])
    have e2 := pos_inj n1 (rho_pos h1) e1
    subst e2
    have hc : c = c' := by
      clear hname n3 n2
      generalize cellv S e a x = vx at hx
      cases hx with
      | one _ _ hl' => cases hl' with
        | ptr _ _ _ b' hh => rw [h3] at hh; injection hh
    subst hc
    exact hname i t (nilsE_mem m1 m2 _ (by simpa [nilE] using ht)))
  have f := canFits (N := nilsE fl τ) (B := boxesE fl τ) h.hi hl n1
  refine ⟨_, hiN, fun t => ?_, h.G, h.n, h.defers, canFr h.fr hl n1⟩
  rcases valsE_get (fl := fl) (f := phi (locsE fl τ) (boxesE fl τ)) τ t with hg | hg
  · rcases valsE_mem (fl := fl) (f := phi (locsE fl τ) (boxesE fl τ)) τ t with ⟨v, hm, hv⟩ | hg'
    · show RA _ _ _ _ _ ((valsE fl _ τ).get t)
      rw [hg]
      have hx := (h.env t).up f
      cases hf : lookF fl t with
      | none => exact hx
      | some p =>
        obtain ⟨k, cs⟩ := p
        simp only
        rw [hv] at hx ⊢
        have hN := nilsE_mem hm hf
        cases v with
        | one l =>
          have gen : (∀ p, p ∈ nilsL k (cs.headD .keep) l → p ∈ nilsE fl τ) → RA S.C w Φ (canH (locsE fl τ) (nilsE fl τ) (boxesE fl τ) H) (cellv S e a t) (.one (canL k (cs.headD .keep) (l.up (phi (locsE fl τ) (boxesE fl τ))))) := fun hq =>
            RA.canOne hx (fun i t ht => hname i t (hq _ (by rwa [nilsL_up hl] at ht))) hiN.novar
          cases l with
          | ptr g o c => exact hx
          | d x => exact gen hN
          | top => exact gen hN
          | own g t xs => exact gen hN
          | eptr g t xs i off => exact gen hN
          | dptr c off => exact gen hN
          | clo fn caps => exact gen hN
          | obj g kk x => exact gen hN
        | agg ls => exact RA.canAgg hx (fun i t ht => hname i t (hN _ (by rwa [nilsLs_up hl] at ht))) hiN.novar
        | tup vs => exact hx
    · show RA _ _ _ _ _ ((valsE fl _ τ).get t)
      rw [hg']; exact .any _
  · show RA _ _ _ _ _ ((valsE fl _ τ).get t)
    rw [hg]; exact .any _
theorem up_vis {φ : LV → LV} {σ : Env} (h : ∀ p, p ∈ σ → σ.get p.1 = p.2) : ∀ p, p ∈ σ.up φ → (σ.up φ).get p.1 = p.2 := by
  have mem : ∀ (σ : Env) p, p ∈ σ.up φ → ∃ v, (p.1, v) ∈ σ ∧ p.2 = v.up φ := by
    intro σ
    induction σ with
    | nil => intro p hp; cases hp
    | cons x r ih =>
      obtain ⟨t, v⟩ := x
      intro p hp
      simp only [Env.up] at hp
      rcases List.mem_cons.1 hp with rfl | hp
      · exact ⟨v, List.mem_cons_self, rfl⟩
      · obtain ⟨v', h1, h2⟩ := ih p hp
        exact ⟨v', List.mem_cons_of_mem _ h1, h2⟩
  intro p hp
  obtain ⟨v, h1, h2⟩ := mem σ p hp
  have := h _ h1
  simp only at this
  rw [Env.get_up, this, h2]
theorem Inv.canO (h : Inv S e Φ H τ a w) (fl : Option (List Tag × Fl)) (hvis : ∀ p, p ∈ τ → τ.get p.1 = p.2) (hnd : canOOk S.C.P fl τ) : ∃ Φ' H', Inv S e Φ' H' (VS.canO S.C.P fl τ) a w := by
  cases fl with
  | none => exact ⟨Φ, H, h⟩
  | some p =>
    obtain ⟨T, fl⟩ := p
    cases T with
    | nil => obtain ⟨H', i⟩ := h.can fl hvis hnd; exact ⟨Φ, H', i⟩
    | cons t r =>
      have i1 := h.frz (among (t :: r))
      obtain ⟨H', i⟩ := i1.can fl (up_vis hvis) hnd
      exact ⟨_, H', i⟩
end
end Go.VS
namespace Go.VS
open Go Go.RowKit
set_option linter.unusedVariables false
set_option linter.unusedSimpArgs false

structure SOp where
  dst : Option Tmp
  op : Op
  guard : Option (Option Tmp × Bool)
def SOp.bare (dst : Option Tmp) (op : Op) : Oper := { dst := dst, op := op, type := 0, pos := "", after := #[], guard := none }
inductive SC where
  | done
  | region (id : Nat) (ops : List SOp) (D : List Nat) (draw : Bool) (rest : SC)
  | cond (c : Operand) (a b : SC) (rest : SC)
  | block (id : Nat) (b : SC) (rest : SC)
  | loop (b : SC)
  | exit (id : Nat)
  | ret
  | bad
def slimOp (ops : List Oper) (o : Oper) : SOp := ⟨o.dst, o.op, o.guard.map fun p => (guardSlot ops p.1, p.2)⟩
def slimOps (all : List Oper) : List Oper → List SOp
  | [] => []
  | o :: r => slimOp all o :: slimOps all r
def slim : Code → SC → SC
  | .skip, r => r
  | .region id ops draw, r => .region id (slimOps ops.toList ops.toList) (creators ops.toList) draw r
  | .seq a b, r => slim a (slim b r)
  | .cond c a b, r => .cond c (slim a .done) (slim b .done) r
  | .block id b, r => .block id (slim b .done) r
  | .loop b, _ => .loop (slim b .done)
  | .exit id, _ => .exit id
  | .ret, _ => .ret
  | _, _ => .bad
/-- What is asked of the code alone. -/
def checks : Code → Bool
  | .region _ ops draw => sole ops.toList && (!draw || (calm ops && (List.range ops.size).all fun j => ((ops[j]?).map fun o => !isMut o.op || mutOkAt ops.toList j).getD true))
  | .seq a b => checks a && checks b
  | .cond _ a b => checks a && checks b
  | .block _ b => checks b
  | .loop b => checks b
  | _ => true

section
variable (S : Sys)
def vGuard (draw : Bool) (o : SOp) (σ : Env) (k : Env → Prop) : Prop :=
  match o.guard with
  | none => wOp S draw true (SOp.bare o.dst o.op) σ k
  | some (none, _) => False
  | some (some t, want) => t < S.n ∧ wSkip (σ.get t) want (wOp S draw true (SOp.bare o.dst o.op) σ k) (wPut S o.dst (.tup []) σ k)
def vOps (draw : Bool) : List SOp → Env → (Env → Prop) → Prop
  | [], σ, k => k σ
  | o :: r, σ, k => vGuard S draw o σ fun σ' => vOps draw r σ' k
def ageE : List Nat → Env → Env
  | [], σ => σ
  | d :: D, σ => σ.up (ren (age (d :: D)))
def pruneO : Option (List Nat) → Env → Env
  | none, σ => σ
  | some l, σ => σ.prune l
def vSC : Nat → SC → (Ex → Env → Prop) → Env → Prop
  | _, .done, Q, σ => Q .normal σ
  | c, .region id ops D draw rest, Q, σ => vOps S draw ops (ageE D σ) fun σ' => ∃ fl, canOOk S.C.P fl (σ'.prune (S.keep id)) ∧ vSC c rest Q (canO S.C.P fl (σ'.prune (S.keep id)))
  | c, .cond x a b rest, Q, σ => wBool (σ.eval S.n x) fun t => (t = true → vSC c a (fun e σ' => match e with | .normal => ∃ l, vSC c rest Q (pruneO l σ') | e => Q e σ') σ) ∧ (t = false → vSC c b (fun e σ' => match e with | .normal => ∃ l, vSC c rest Q (pruneO l σ') | e => Q e σ') σ)
  | c, .block id b rest, Q, σ => vSC id b (fun e σ' => match e with | .normal => ∃ l, vSC c rest Q (pruneO l σ') | .exit i => if i = id then ∃ l, vSC c rest Q (pruneO l σ') else Q (.exit i) σ' | .ret => Q .ret σ') σ
  | c, .loop b, Q, σ => ∃ (ad : List Ad) (I : Nat → Env → Prop) (n : Nat), I n ((σ.prune (S.loopKeep c)).adopt ad) ∧
      ∀ n σ, I n σ → vSC c b (fun e σ' => match e with | .normal => ∃ m, m < n ∧ I m (σ'.prune (S.loopKeep c)) | e => Q e σ') σ
  | _, .exit id, Q, σ => Q (.exit id) σ
  | _, .ret, Q, σ => Q .ret σ
  | _, .bad, _, _ => False
def vFun (fz : Bool) (res : List ResultVar) (c : SC) (args : List AV) (R : AV → List AV → Prop) : Prop :=
  vSC S 0 c (fun ex σ => match ex with | .exit _ => False | _ => wEnd S fz res args.length R σ) (entry S.n args)
end

section
variable {S : Sys} {e : Entry}
theorem wOp_bare {draw m : Bool} {o : Oper} {σ : Env} {k : Env → Prop} : wOp S draw m (SOp.bare o.dst o.op) σ k = wOp S draw m o σ k := by
  unfold wOp SOp.bare
  rfl
theorem wOp_mut {draw m m' : Bool} {o : Oper} (h : isMut o.op = false ∨ m = m') {σ : Env} {k : Env → Prop} : wOp S draw m o σ k = wOp S draw m' o σ k := by
  rcases h with h | rfl
  · obtain ⟨dst, op, ty, pos, after, guard⟩ := o
    cases op with
    | store => cases h
    | call c =>
      simp only [wOp]
      unfold wCallOp
      cases hc : c.callee with
      | builtin b => cases b <;> first | rfl | (simp [isMut, hc] at h)
      | _ => rfl
    | makeFunc f => cases f <;> rfl
    | slice t x lo hi mx => cases mx <;> rfl
    | _ => rfl
  · rfl

theorem vGuard_eq {draw : Bool} {all : List Oper} {m : Bool} {o : Oper} (h : isMut o.op = false ∨ true = m) {σ : Env} {k : Env → Prop} : vGuard S draw (slimOp all o) σ k = wGuard S draw m all o σ k := by
  unfold vGuard wGuard slimOp
  cases hg : o.guard with
  | none => simp only [Option.map_none]; rw [wOp_bare, wOp_mut h]
  | some p =>
    obtain ⟨j, want⟩ := p
    simp only [Option.map_some]
    cases ht : guardSlot all j with
    | none => rfl
    | some t => simp only [wOp_bare]; rw [wOp_mut h]

theorem vOps_eq {draw : Bool} {all : List Oper} {m : Nat → Bool} {k : Env → Prop} : ∀ (rest : List Oper) (i : Nat) (σ : Env), (∀ (j : Nat) o, rest[j]? = some o → isMut o.op = false ∨ m (i + j) = true) → vOps S draw (slimOps all rest) σ k = wOps S draw m all i rest σ k
  | [], i, σ, hm => rfl
  | o :: r, i, σ, hm => by
    have h0 := hm 0 o (by simp)
    have hr : ∀ (j : Nat) o', r[j]? = some o' → isMut o'.op = false ∨ m (i + 1 + j) = true := fun j o' hj => by
      have := hm (j + 1) o' (by simpa using hj)
      rwa [show i + (j + 1) = i + 1 + j by omega] at this
    have hmm : isMut o.op = false ∨ true = m i := h0.imp id (fun h => by simpa using h.symm)
    simp only [slimOps, vOps, wOps]
    rw [vGuard_eq hmm]
    congr 1
    funext σ'
    exact vOps_eq r (i + 1) σ' hr

theorem ageE_eq (D : List Nat) (σ : Env) : ageE D σ = σ.up (ren (VS.age D)) := by
  cases D with
  | nil =>
    have : ∀ l, ren (VS.age []) l = l := by
      have hg : ∀ g, VS.age [] g = g := by intro g; cases g <;> simp [VS.age]
      intro l
      cases l <;> simp [ren, hg]
    rw [Env.up_id this]
    rfl
  | cons d D => rfl

theorem Inv.pruneO {Φ : Nat → Prop} {H : Tag → TI} {σ : Env} {a : Act} {w : World} (h : Inv S e Φ H σ a w) (l : Option (List Nat)) : Inv S e Φ H (VS.pruneO l σ) a w := by
  cases l with
  | none => exact h
  | some l => exact h.prune l

theorem v_sound (good : Good S) : ∀ (c : Code) (r : SC) (b : Nat) {Q : Ex → Env → Prop} {QQ : Exit → Act → World → Prop} {Φ : Nat → Prop} {H : Tag → TI} {σ : Env} {a : Act} {w : World}, checks c = true → vSC S b (slim c r) Q σ → Inv S e Φ H σ a w →
    (∀ (ex : Ex) σ' Φ' H' a' w', (match ex with | .normal => vSC S b r Q σ' | ex => Q ex σ') → Inv S e Φ' H' σ' a' w' → QQ ex.out a' w') → c.wp S.C.P QQ a w := by
  intro c
  induction c with
  | skip => intro r b Q QQ Φ H σ a w hc h inv hq; exact wp_skip (hq .normal _ _ _ _ _ h inv)
  | region id ops draw =>
    intro r b Q QQ Φ H σ a w hc h inv hq
    simp only [checks, Bool.and_eq_true, Bool.or_eq_true, Bool.not_eq_true'] at hc
    obtain ⟨hs, hc⟩ := hc
    simp only [slim, vSC, ageE_eq] at h
    have hk : ∀ Φ' H' σ' a' w', (fun σ' => ∃ fl, canOOk S.C.P fl (σ'.prune (S.keep id)) ∧ vSC S b r Q (canO S.C.P fl (σ'.prune (S.keep id)))) σ' → Inv S e Φ' H' σ' a' w' → QQ .normal a' w' := fun Φ' H' σ' a' w' hσ hi => by
      obtain ⟨fl, h1, h2⟩ := hσ
      obtain ⟨Φ2, H2, i2⟩ := (hi.prune (S.keep id)).canO fl (prune_vis _ _) h1
      exact hq .normal _ _ _ _ _ h2 i2
    have hext : Ext (fun σ' => ∃ fl, canOOk S.C.P fl (σ'.prune (S.keep id)) ∧ vSC S b r Q (canO S.C.P fl (σ'.prune (S.keep id)))) := by
      intro σ σ' he h
      simp only [prune_eqv he]
      exact h
    cases draw with
    | false =>
      rw [vOps_eq (m := fun _ => true) ops.toList 0 _ (fun _ _ _ => .inr rfl)] at h
      exact region_text good hs inv h hk
    | true =>
      have hc := hc.resolve_left (by simp)
      rw [vOps_eq (m := mutOkAt ops.toList) ops.toList 0 _ (fun j o hj => by
        have hlt : j < ops.size := by have := (List.getElem?_eq_some_iff.1 hj).1; simpa using this
        have hj' : ops[j]? = some o := by simpa using hj
        have := List.all_eq_true.1 hc.2 j (List.mem_range.2 hlt)
        rw [hj'] at this
        simp only [Option.map_some, Option.getD_some, Bool.or_eq_true, Bool.not_eq_true'] at this
        simpa using this)] at h
      exact region_draw good hs hc.1 inv hext h hk
  | seq x y ihx ihy =>
    intro r b Q QQ Φ H σ a w hc h inv hq
    simp only [checks, Bool.and_eq_true] at hc
    refine wp_seq (ihx (slim y r) b hc.1 h inv (fun ex σ' Φ' H' a' w' hσ hi => ?_))
    cases ex with
    | normal => exact ihy r b hc.2 hσ hi hq
    | exit id => exact hq (.exit id) _ _ _ _ _ hσ hi
    | ret => exact hq .ret _ _ _ _ _ hσ hi
  | cond x c1 c2 ih1 ih2 =>
    intro r b Q QQ Φ H σ a w hc h inv hq
    simp only [checks, Bool.and_eq_true] at hc
    obtain ⟨t, ht, h1, h2⟩ := wBool_inv h
    have hx := inv.eval x
    rw [ht] at hx
    refine wp_cond_split hx.bool (fun e1 => ih1 .done b hc.1 (h1 e1) inv (fun ex σ' Φ' H' a' w' hσ hi => ?_)) (fun e1 => ih2 .done b hc.2 (h2 e1) inv (fun ex σ' Φ' H' a' w' hσ hi => ?_))
    · cases ex with
      | normal => obtain ⟨l, hσ⟩ := hσ; exact hq .normal _ _ _ _ _ hσ (hi.pruneO l)
      | exit id => exact hq (.exit id) _ _ _ _ _ hσ hi
      | ret => exact hq .ret _ _ _ _ _ hσ hi
    · cases ex with
      | normal => obtain ⟨l, hσ⟩ := hσ; exact hq .normal _ _ _ _ _ hσ (hi.pruneO l)
      | exit id => exact hq (.exit id) _ _ _ _ _ hσ hi
      | ret => exact hq .ret _ _ _ _ _ hσ hi
  | block id body ih =>
    intro r b Q QQ Φ H σ a w hc h inv hq
    refine wp_block (ih .done id hc h inv (fun ex σ' Φ' H' a' w' hσ hi => ?_))
    cases ex with
    | normal => obtain ⟨l, hσ⟩ := hσ; exact hq .normal _ _ _ _ _ hσ (hi.pruneO l)
    | exit i =>
      simp only [Ex.out, Exit.inBlock]
      dsimp only at hσ
      split at hσ
      · rename_i hid; rw [if_pos hid]; obtain ⟨l, hσ⟩ := hσ; exact hq .normal _ _ _ _ _ hσ (hi.pruneO l)
      · rename_i hid; rw [if_neg hid]; exact hq (.exit i) _ _ _ _ _ hσ hi
    | ret => exact hq .ret _ _ _ _ _ hσ hi
  | loop body ih =>
    intro r b Q QQ Φ H σ a w hc h inv hq
    obtain ⟨ad, I, n, h0, hr⟩ := h
    obtain ⟨H1, inv1⟩ := (inv.prune (S.loopKeep b)).adopt ad
    refine wp_loop_ghost (fun n a w => ∃ Φ H σ, I n σ ∧ Inv S e Φ H σ a w) n ⟨Φ, H1, _, h0, inv1⟩ ?_
    rintro n a w ⟨Φ, H, σ, hI, inv⟩
    refine ih .done b hc (hr n σ hI) inv (fun ex σ' Φ' H' a' w' hσ hi => ?_)
    cases ex with
    | normal =>
      obtain ⟨m, hm, hI⟩ := hσ
      exact ⟨m, hm, Φ', H', _, hI, hi.prune _⟩
    | exit id => exact hq (.exit id) _ _ _ _ _ hσ hi
    | ret => exact hq .ret _ _ _ _ _ hσ hi
  | exit id => intro r b Q QQ Φ H σ a w hc h inv hq; exact wp_exit (hq (.exit id) _ _ _ _ _ h inv)
  | ret => intro r b Q QQ Φ H σ a w hc h inv hq; exact wp_ret (hq .ret _ _ _ _ _ h inv)
  | _ => intro r b Q QQ Φ H σ a w hc h inv hq; exact h.elim

theorem fun_v (good : Good S) {f : FuncId} {fn : Func} {c : Code} (hf : S.C.P.funcs[f]? = some fn) (hb : fn.body = some c) (hn : S.n = fn.ntmps) {args : List AV} (hna : args.length ≤ fn.ntmps) (hc : checks c = true) (fz : Bool) {R : AV → List AV → Prop}
    (h : vFun S fz fn.results.toList (slim c .done) args R) : Okp S.C f args R :=
  fun_leads hf hb hn hna fz (fun e QQ Φ H a w inv hq => v_sound good c .done 0 hc h inv (fun ex σ' Φ' H' a' w' hσ hi => by
    cases ex with
    | normal => exact hq .normal _ _ _ _ _ hσ hi
    | exit id => exact hq (.exit id) _ _ _ _ _ hσ hi
    | ret => exact hq .ret _ _ _ _ _ hσ hi))
end

/-- What must come next. -/
def At (K : Env → Prop) (σ : Env) : Prop := K σ
theorem At.intro {K : Env → Prop} {N : Env → Prop} {σ : Env} (hK : ∀ σ, N σ → K σ) (h : N σ) : At K σ := hK σ h

section
variable {S : Sys}
theorem vSC_region {c id : Nat} {ops : List SOp} {D : List Nat} {draw : Bool} {rest : SC} {Q : Ex → Env → Prop} {σ : Env} (h : ∀ K : Env → Prop, (∀ σ', vSC S c rest Q σ' → K σ') → vOps S draw ops (ageE D σ) (fun σ' => At K (σ'.prune (S.keep id)))) : vSC S c (.region id ops D draw rest) Q σ :=
  h (fun τ => ∃ fl, canOOk S.C.P fl τ ∧ vSC S c rest Q (canO S.C.P fl τ)) (fun _ h => ⟨none, trivial, h⟩)
/-- A region, with what is known behind it written out. -/
theorem vSC_mid {c id : Nat} {ops : List SOp} {D : List Nat} {draw : Bool} {rest : SC} {Q : Ex → Env → Prop} {σ : Env} (fl : Option (List Tag × Fl)) (τ : Env)
    (h1 : ∀ K : Env → Prop, (∀ σ' : Env, canOOk S.C.P fl (σ'.prune (S.keep id)) → canO S.C.P fl (σ'.prune (S.keep id)) = τ → At K σ') → vOps S draw ops (ageE D σ) (fun σ' => At K σ')) (h2 : vSC S c rest Q τ) : vSC S c (.region id ops D draw rest) Q σ :=
  h1 (fun σ' => ∃ fl, canOOk S.C.P fl (σ'.prune (S.keep id)) ∧ vSC S c rest Q (canO S.C.P fl (σ'.prune (S.keep id)))) (fun σ' ha hb => ⟨fl, ha, by rw [hb]; exact h2⟩)
theorem vSC_cond_join {c : Nat} {x : Operand} {a b rest : SC} {Q : Ex → Env → Prop} {σ : Env} (l : Option (List Nat)) (J : Env → Prop) (hrest : ∀ σ', J σ' → vSC S c rest Q σ') (h : ∀ K : Ex → Env → Prop, (∀ σ', J (pruneO l σ') → K .normal σ') → (∀ i σ', Q (.exit i) σ' → K (.exit i) σ') → (∀ σ', Q .ret σ' → K .ret σ') →
    wBool (σ.eval S.n x) fun t => (t = true → vSC S c a K σ) ∧ (t = false → vSC S c b K σ)) : vSC S c (.cond x a b rest) Q σ :=
  h _ (fun σ' hj => ⟨l, hrest _ hj⟩) (fun _ _ h => h) (fun _ h => h)
theorem vSC_block_join {c id : Nat} {b rest : SC} {Q : Ex → Env → Prop} {σ : Env} (l : Option (List Nat)) (J : Env → Prop) (hrest : ∀ σ', J σ' → vSC S c rest Q σ') (h : ∀ K : Ex → Env → Prop, (∀ σ', J (pruneO l σ') → K .normal σ') → (∀ σ', J (pruneO l σ') → K (.exit id) σ') → (∀ i σ', i ≠ id → Q (.exit i) σ' → K (.exit i) σ') → (∀ σ', Q .ret σ' → K .ret σ') →
    vSC S id b K σ) : vSC S c (.block id b rest) Q σ :=
  h _ (fun σ' hj => ⟨l, hrest _ hj⟩) (fun _ hj => by simpa using ⟨l, hrest _ hj⟩) (fun i _ hne h => by simpa [hne] using h) (fun _ h => h)
theorem vSC_cond {c : Nat} {x : Operand} {a b rest : SC} {Q : Ex → Env → Prop} {σ : Env} (h : ∀ K : Ex → Env → Prop, (∀ σ', vSC S c rest Q σ' → K .normal σ') → (∀ i σ', Q (.exit i) σ' → K (.exit i) σ') → (∀ σ', Q .ret σ' → K .ret σ') →
    wBool (σ.eval S.n x) fun t => (t = true → vSC S c a K σ) ∧ (t = false → vSC S c b K σ)) : vSC S c (.cond x a b rest) Q σ :=
  h _ (fun _ h => ⟨none, h⟩) (fun _ _ h => h) (fun _ h => h)
theorem vSC_block {c id : Nat} {b rest : SC} {Q : Ex → Env → Prop} {σ : Env} (h : ∀ K : Ex → Env → Prop, (∀ σ', vSC S c rest Q σ' → K .normal σ') → (∀ σ', vSC S c rest Q σ' → K (.exit id) σ') → (∀ i σ', i ≠ id → Q (.exit i) σ' → K (.exit i) σ') → (∀ σ', Q .ret σ' → K .ret σ') →
    vSC S id b K σ) : vSC S c (.block id b rest) Q σ :=
  h _ (fun _ h => ⟨none, h⟩) (fun _ h => by simpa using ⟨none, h⟩) (fun i _ hne h => by simpa [hne] using h) (fun _ h => h)
theorem vSC_loop {c : Nat} {b : SC} {Q : Ex → Env → Prop} {σ : Env} (ad : List Ad) (I : Nat → Env → Prop) (n : Nat) (h0 : I n ((σ.prune (S.loopKeep c)).adopt ad))
    (h : ∀ n σ, I n σ → ∀ K : Ex → Env → Prop, (∀ σ', (∃ m, m < n ∧ I m (σ'.prune (S.loopKeep c))) → K .normal σ') → (∀ i σ', Q (.exit i) σ' → K (.exit i) σ') → (∀ σ', Q .ret σ' → K .ret σ') → vSC S c b K σ) : vSC S c (.loop b) Q σ :=
  ⟨ad, I, n, h0, fun n σ hI => h n σ hI _ (fun _ h => h) (fun _ _ h => h) (fun _ h => h)⟩
theorem vSC_done {c : Nat} {Q : Ex → Env → Prop} {σ : Env} (h : Q .normal σ) : vSC S c .done Q σ := h
theorem vSC_ret {c : Nat} {Q : Ex → Env → Prop} {σ : Env} (h : Q .ret σ) : vSC S c .ret Q σ := h
theorem vSC_exit {c id : Nat} {Q : Ex → Env → Prop} {σ : Env} (h : Q (.exit id) σ) : vSC S c (.exit id) Q σ := h

/-- Two ways that meet again. -/
theorem merge_and {K : Env → Prop} {p q : Bool} {t : Nat} {r : Env} : ((p = true → At K ((t, .one (.d (.bool q))) :: r)) ∧ (p = false → At K ((t, .one (.d (.bool false))) :: r))) ↔ At K ((t, .one (.d (.bool (p && q)))) :: r) := by cases p <;> simp
theorem merge_and' {K : Env → Prop} {p q : Bool} {t : Nat} {r : Env} {C : Prop} : ((p = true → C ∧ At K ((t, .one (.d (.bool q))) :: r)) ∧ (p = false → At K ((t, .one (.d (.bool false))) :: r))) ↔ (p = true → C) ∧ At K ((t, .one (.d (.bool (p && q)))) :: r) := by cases p <;> simp
theorem merge_or {K : Env → Prop} {p q : Bool} {t : Nat} {r : Env} : ((p = false → At K ((t, .one (.d (.bool q))) :: r)) ∧ (p = true → At K ((t, .one (.d (.bool true))) :: r))) ↔ At K ((t, .one (.d (.bool (p || q)))) :: r) := by cases p <;> simp
theorem merge_or' {K : Env → Prop} {p q : Bool} {t : Nat} {r : Env} {C : Prop} : ((p = false → C ∧ At K ((t, .one (.d (.bool q))) :: r)) ∧ (p = true → At K ((t, .one (.d (.bool true))) :: r))) ↔ (p = false → C) ∧ At K ((t, .one (.d (.bool (p || q)))) :: r) := by cases p <;> simp
end

/-! ### contracts -/
open Classical in
/-- A contract: of arguments of a certain form. -/
noncomputable def FS.of {ι : Type} (rw : List PM) (args : ι → List AV) (R : ι → AV → List AV → Prop) : FS :=
  ⟨rw, fun as => if h : ∃ i, args i = as then some (R (Classical.choose h)) else none⟩
theorem FS.of_post {ι : Type} {rw : List PM} {args : ι → List AV} {R : ι → AV → List AV → Prop} (inj : ∀ i j, args i = args j → i = j) (i : ι) : (FS.of rw args R).post (args i) = some (R i) := by
  have h : ∃ j, args j = args i := ⟨i, rfl⟩
  have hj := inj _ _ (Classical.choose_spec h)
  simp only [FS.of]
  rw [dif_pos h, hj]
def OkF (C : Ctx) (f : FuncId) (F : FS) : Prop := Enters C.P f ∧ ∀ as R, F.post as = some R → Okp C f as R
theorem OkF.of {C : Ctx} {f : FuncId} {ι : Type} {rw : List PM} {args : ι → List AV} {R : ι → AV → List AV → Prop} (he : Enters C.P f) (h : ∀ i, Okp C f (args i) (R i)) : OkF C f (FS.of rw args R) := by
  refine ⟨he, fun as R' hR => ?_⟩
  simp only [FS.of] at hR
  split at hR
  · rename_i hx
    injection hR with hR
    rw [← hR]
    have := h (Classical.choose hx)
    rw [Classical.choose_spec hx] at this
    exact this
  · cases hR
def lookX : List (FuncId × FS) → FuncId → Option FS
  | [], _ => none
  | (g, F) :: r, f => if g = f then some F else lookX r f
def GoodT (C : Ctx) (tbl : List (FuncId × FS)) : Prop := ∀ f F, lookX tbl f = some F → OkF C f F
theorem GoodT.nil {C : Ctx} : GoodT C [] := fun f F h => by cases h
theorem GoodT.cons {C : Ctx} {f : FuncId} {F : FS} {tbl : List (FuncId × FS)} (h : OkF C f F) (ht : GoodT C tbl) : GoodT C ((f, F) :: tbl) := by
  intro g G hg
  simp only [lookX] at hg
  split at hg
  · rename_i e
    injection hg with hg
    subst e; subst hg
    exact h
  · exact ht g G hg
theorem GoodT.good {S : Sys} {tbl : List (FuncId × FS)} (h : GoodT S.C tbl) (hX : S.X = lookX tbl) : Good S := fun f F hf => h f F (by rw [← hX]; exact hf)
theorem Enters.of {P : Program} {f : FuncId} {fn : Func} {c : Code} (hf : P.funcs[f]? = some fn) (hb : fn.body = some c) (hn : (fn.name == "runtime.NumGoroutine") = false) : Enters P f := ⟨fn, hf, hn, by rw [hb]; rfl⟩
end Go.VS
