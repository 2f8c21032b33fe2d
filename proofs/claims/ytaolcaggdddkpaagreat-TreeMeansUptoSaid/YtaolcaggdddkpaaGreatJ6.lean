/-
  Policies: laws of what comes of a packet. Plain; Trees: what the case that is found makes of a packet. Plain.
-/
import Derived.Test.YtaolcaggdddkpaaGreatJ5
namespace Go.Proofs.YtaolcaggdddkpaaGreat
open Go.Sx
set_option maxRecDepth 20000
set_option linter.unusedVariables false
namespace Po
theorem mem_seq1 (sw : Int) (y : T) (l : List T) (out : List S) (t : S) : t ∈ runsQ sw (y :: l) out ↔ t ∈ runsQ sw l (thenS sw y out) := by rw [runsQ]; exact Iff.rfl
theorem mem_runsQ (sw : Int) (t : S) : ∀ (l : List T) (out : List S), t ∈ runsQ sw l out ↔ ∃ s ∈ out, t ∈ runsQ sw l [s]
  | [], out => by simp [runsQ]
  | y :: l, out => by
    have e1 : ∀ o, runsQ sw (y :: l) o = runsQ sw l (thenS sw y o) := fun o => by rw [runsQ]; rfl
    rw [e1, mem_runsQ sw t l]
    constructor
    · rintro ⟨u, hu, ht⟩
      obtain ⟨s, hs, hu⟩ := (mem_then sw y u out).1 hu
      exact ⟨s, hs, by rw [e1, mem_runsQ sw t l]; exact ⟨u, (mem_then sw y u [s]).2 ⟨s, by simp, hu⟩, ht⟩⟩
    · rintro ⟨s, hs, ht⟩
      rw [e1, mem_runsQ sw t l] at ht
      obtain ⟨u, hu, ht⟩ := ht
      obtain ⟨s', hs', hu⟩ := (mem_then sw y u [s]).1 hu
      rw [List.mem_singleton.1 hs'] at hu
      exact ⟨u, (mem_then sw y u out).2 ⟨s, hs, hu⟩, ht⟩
theorem mem_Q0 (sw : Int) (s t : S) : t ∈ runsQ sw [] [s] ↔ t = s := by simp [runsQ]
theorem mem_Q1 (sw : Int) (y : T) (l : List T) (s t : S) : t ∈ runsQ sw (y :: l) [s] ↔ ∃ u ∈ runs sw y s, t ∈ runsQ sw l [u] := by
  rw [mem_seq1, mem_runsQ]
  constructor
  · rintro ⟨u, hu, ht⟩
    obtain ⟨s', hs', hu⟩ := (mem_then sw y u [s]).1 hu
    rw [List.mem_singleton.1 hs'] at hu
    exact ⟨u, hu, ht⟩
  · rintro ⟨u, hu, ht⟩
    exact ⟨u, (mem_then sw y u [s]).2 ⟨s, by simp, hu⟩, ht⟩
theorem ptop_top {f : Int} (h : 0 ≤ f ∧ f < 4) : ptop f = Pd.top f := by
  unfold ptop Pd.top
  rw [if_neg (by omega : ¬ (f = 4 ∨ f = 5))]
end Po
end Go.Proofs.YtaolcaggdddkpaaGreat
namespace Go.Proofs.YtaolcaggdddkpaaGreat
open Go.Sx
set_option maxRecDepth 20000
set_option linter.unusedVariables false
namespace Tr
open Po (S)
def sub (t u : S) : S := ⟨if u.port = -1 then t.port else u.port, if u.p0 = -1 then t.p0 else u.p0, if u.p1 = -1 then t.p1 else u.p1, if u.p2 = -1 then t.p2 else u.p2, if u.p3 = -1 then t.p3 else u.p3⟩
theorem ok5 {f : Int} (h : ok f) : f = 0 ∨ f = 1 ∨ f = 2 ∨ f = 3 ∨ f = 4 := by omega
theorem gt_sub {f : Int} (hf : ok f) (t u : S) : gt f (sub t u) = if gt f u = -1 then gt f t else gt f u := by
  rcases ok5 hf with rfl | rfl | rfl | rfl | rfl <;> rfl
theorem gt_came {f : Int} (hf : ok f) (k u : S) : gt f (cameS k u) = if f = 4 then gt f u else came (gt f u) (gt f k) := by
  rcases ok5 hf with rfl | rfl | rfl | rfl | rfl <;> rfl
theorem get_at {f : Int} (hf : ok f) (sw : Int) (u : S) : Pd.get f (u.at_ sw) = gt f u := by
  rcases ok5 hf with rfl | rfl | rfl | rfl | rfl <;> rfl
theorem put_with {f v : Int} (hf : ok f) (hv : 0 ≤ v ∧ v ≤ Pd.top f) (u : S) : Po.put f v u = withK f v u := by
  unfold Po.put withK
  by_cases h4 : f = 4
  · rw [if_pos h4, if_pos h4]
  · rw [if_neg h4, if_neg h4]
    have e := Po.ptop_top (f := f) (by omega)
    unfold Po.withS
    rw [e, if_pos ⟨by omega, hv⟩]
theorem sub_with {f v : Int} (hf : ok f) (hv : v ≠ -1) (t u : S) : withK f v (sub t u) = sub t (withK f v u) := S_ext fun g hg => by
  by_cases e : g = f
  · subst e
    rw [gt_same, gt_sub hg, gt_same, if_neg hv]
  · rw [gt_other v _ hf hg e, gt_sub hg, gt_sub hg, gt_other v u hf hg e]
/-- Is what is not known of a packet asked for by none? -/
def Free (V : Int → Int → Prop) (t u : S) : Prop := ∀ f, ok f → gt f u = -1 → ¬ V f (gt f t)
theorem hits_sub (sw : Int) (V : Int → Int → Prop) (t u : S) (hu : Free V t u) (p : Pd.T) (hp : Pd.fits p = true) (hV : ∀ f v, ok f → v ∈ Pd.vals f p → V f v) : Pd.hits ((sub t u).at_ sw) p = Pd.hits (u.at_ sw) p :=
  Pd.hits_alike _ _ p fun f hf v hv hne => by
    by_cases h5 : f = 5
    · subst h5; exact absurd rfl hne
    · have hf' : ok f := by omega
      rw [get_at hf', get_at hf', gt_sub hf'] at hne ⊢
      have h0 := Pd.vals_top f p hp v hv
      by_cases e : gt f u = -1
      · rw [if_pos e] at hne ⊢
        refine ⟨fun h => hu f hf' e (by rw [h]; exact hV f v hf' hv), by omega⟩
      · rw [if_neg e] at hne
        exact absurd rfl hne
theorem pd_of {k : Int} {p : Pd.T} {a w : Int} {l : List Po.T} {V : Int → Int → Prop} (hV : ∀ f v, ok f → v ∈ Po.vals f (.mk k p a w l) → V f v) : (∀ f v, ok f → v ∈ Pd.vals f p → V f v) ∧ (∀ y ∈ l, ∀ f v, ok f → v ∈ Po.vals f y → V f v) := by
  refine ⟨fun f v hf hv => hV f v hf ?_, fun y hy f v hf hv => hV f v hf ?_⟩
  · rw [Po.vals_mk, List.mem_append, List.mem_append, Pd.values_mem]
    exact .inr (.inl hv)
  · rw [Po.vals_mk, List.mem_append, List.mem_append, Po.mem_valsL]
    exact .inr (.inr ⟨y, hy, hv⟩)
theorem Q_keep (sw : Int) (V : Int → Int → Prop) : ∀ (l : List Po.T), (∀ y ∈ l, ∀ u w, w ∈ Po.runs sw y u → ∀ f, ok f → gt f w = gt f u ∨ V f (gt f w)) → ∀ u w, w ∈ Po.runsQ sw l [u] → ∀ f, ok f → gt f w = gt f u ∨ V f (gt f w)
  | [], _, u, w, hw, f, hf => by rw [(Po.mem_Q0 sw u w).1 hw]; exact .inl rfl
  | y :: l, h, u, w, hw, f, hf => by
    obtain ⟨u', hu, hw⟩ := (Po.mem_Q1 sw y l u w).1 hw
    rcases Q_keep sw V l (fun z hz => h z (by simp [hz])) u' w hw f hf with e | e
    · rw [e]; exact h y (by simp) u u' hu f hf
    · exact .inr e
/-- A field stays, or gets a number of its own. -/
theorem runs_keep (sw : Int) (V : Int → Int → Prop) : ∀ (n : Nat) (x : Po.T), Po.tot x ≤ n → Po.fits x = true → (∀ f v, ok f → v ∈ Po.vals f x → V f v) → ∀ u w, w ∈ Po.runs sw x u → ∀ f, ok f → gt f w = gt f u ∨ V f (gt f w)
  | 0, x, hn, _, _ => absurd (Po.tot_pos x) (by omega)
  | n + 1, ⟨k, p, a, v, l⟩, hn, h, hV => fun u w hw f hf => by
    obtain ⟨hsh, hfl⟩ := Po.fits_iff.1 h
    have hV2 := (pd_of hV).2
    have ih : ∀ y ∈ l, ∀ u w, w ∈ Po.runs sw y u → ∀ f, ok f → gt f w = gt f u ∨ V f (gt f w) := fun y hy => runs_keep sw V n y (by have := Po.tot_lt (k := k) (q := p) (f := a) (v := v) hy; omega) (hfl y hy) (hV2 y hy)
    rcases hsh with ⟨rfl, _, _, hl⟩ | ⟨rfl, rfl, ha, hv, hl⟩ | ⟨rfl | rfl, _, _, hl1, hl2⟩ | ⟨rfl, _, _, hl⟩
    · rw [Po.runs_mk, if_pos rfl] at hw
      split at hw
      · rw [List.mem_singleton.1 hw]; exact .inl rfl
      · cases hw
    · rw [Po.runs_mk, if_neg (by decide), if_pos rfl, List.mem_singleton] at hw
      rw [hw, put_with ⟨ha.1, ha.2⟩ hv]
      by_cases e : f = a
      · subst e
        rw [gt_same]
        refine .inr (hV f v hf ?_)
        rw [Po.vals_mk, if_pos ⟨rfl, rfl⟩]
        simp
      · rw [gt_other v u ⟨ha.1, ha.2⟩ hf e]; exact .inl rfl
    · rw [Po.runs_mk, if_neg (by decide), if_neg (by decide), if_pos rfl] at hw
      exact Q_keep sw V l ih u w hw f hf
    · rw [Po.runs_mk, if_neg (by decide), if_neg (by decide), if_neg (by decide), if_pos rfl, Po.mem_runsU] at hw
      rcases hw with hw | ⟨y, hy, hw⟩
      · cases hw
      · exact ih y hy u w hw f hf
    · match l, hl with
      | [b, c], _ =>
        have hR : Po.runs sw (.mk 5 p a v [b, c]) u = if Pd.hits (u.at_ sw) p = true then Po.runs sw b u else Po.runs sw c u := by
          rw [Po.runs_mk, Po.runsA, Po.runsB, Po.runsA]; simp
        rw [hR] at hw
        split at hw
        · exact ih b (by simp) u w hw f hf
        · exact ih c (by simp) u w hw f hf
theorem free_keep {sw : Int} {V : Int → Int → Prop} (h0 : ∀ f v, ok f → V f v → 0 ≤ v) {t u w : S} (hu : Free V t u) (h : ∀ f, ok f → gt f w = gt f u ∨ V f (gt f w)) : Free V t w := fun f hf e => by
  rcases h f hf with h | h
  · exact hu f hf (h ▸ e)
  · have := h0 f _ hf h; omega
theorem Q_sub (sw : Int) (V : Int → Int → Prop) (t : S) (h0 : ∀ f v, ok f → V f v → 0 ≤ v) : ∀ (l : List Po.T), (∀ y ∈ l, ∀ u w, w ∈ Po.runs sw y u → ∀ f, ok f → gt f w = gt f u ∨ V f (gt f w)) → (∀ y ∈ l, ∀ u, Free V t u → ∀ w, w ∈ Po.runs sw y (sub t u) ↔ ∃ z ∈ Po.runs sw y u, w = sub t z) → ∀ u, Free V t u → ∀ w, w ∈ Po.runsQ sw l [sub t u] ↔ ∃ z ∈ Po.runsQ sw l [u], w = sub t z
  | [], _, _, u, _, w => by
    rw [Po.mem_Q0]
    constructor
    · intro e; exact ⟨u, (Po.mem_Q0 sw u u).2 rfl, e⟩
    · rintro ⟨z, hz, e⟩; rw [e, (Po.mem_Q0 sw u z).1 hz]
  | y :: l, hk, h, u, hu, w => by
    have ih := Q_sub sw V t h0 l (fun z hz => hk z (by simp [hz])) (fun z hz => h z (by simp [hz]))
    have hk1 := hk y (by simp) u
    rw [Po.mem_Q1]
    constructor
    · rintro ⟨a, ha, hw⟩
      obtain ⟨z, hz, rfl⟩ := (h y (by simp) u hu a).1 ha
      obtain ⟨z2, hz2, e⟩ := (ih z (free_keep (sw := sw) h0 hu (hk1 z hz)) w).1 hw
      exact ⟨z2, (Po.mem_Q1 sw y l u z2).2 ⟨z, hz, hz2⟩, e⟩
    · rintro ⟨z2, hz2, e⟩
      obtain ⟨z, hz, hz2⟩ := (Po.mem_Q1 sw y l u z2).1 hz2
      exact ⟨sub t z, (h y (by simp) u hu _).2 ⟨z, hz, rfl⟩, (ih z (free_keep (sw := sw) h0 hu (hk1 z hz)) w).2 ⟨z2, hz2, e⟩⟩
/-- What comes of a packet is what comes of what is known of it. -/
theorem runs_sub (sw : Int) (V : Int → Int → Prop) (t : S) (h0 : ∀ f v, ok f → V f v → 0 ≤ v) : ∀ (n : Nat) (x : Po.T), Po.tot x ≤ n → Po.fits x = true → (∀ f v, ok f → v ∈ Po.vals f x → V f v) → ∀ u, Free V t u → ∀ w, w ∈ Po.runs sw x (sub t u) ↔ ∃ z ∈ Po.runs sw x u, w = sub t z
  | 0, x, hn, _, _ => absurd (Po.tot_pos x) (by omega)
  | n + 1, ⟨k, p, a, v, l⟩, hn, h, hV => fun u hu w => by
    obtain ⟨hsh, hfl⟩ := Po.fits_iff.1 h
    obtain ⟨hV1, hV2⟩ := pd_of hV
    have ih : ∀ y ∈ l, ∀ u, Free V t u → ∀ w, w ∈ Po.runs sw y (sub t u) ↔ ∃ z ∈ Po.runs sw y u, w = sub t z := fun y hy => runs_sub sw V t h0 n y (by have := Po.tot_lt (k := k) (q := p) (f := a) (v := v) hy; omega) (hfl y hy) (hV2 y hy)
    have ik : ∀ y ∈ l, ∀ u w, w ∈ Po.runs sw y u → ∀ f, ok f → gt f w = gt f u ∨ V f (gt f w) := fun y hy => runs_keep sw V _ y (Nat.le_refl _) (hfl y hy) (hV2 y hy)
    rcases hsh with ⟨rfl, hp, _, hl⟩ | ⟨rfl, rfl, ha, hv, hl⟩ | ⟨rfl | rfl, _, _, hl1, hl2⟩ | ⟨rfl, hp, _, hl⟩
    · rw [Po.runs_mk, Po.runs_mk, if_pos rfl, if_pos rfl, hits_sub sw V t u hu p (Po.right_fits hp) hV1]
      split
      · simp
      · simp
    · rw [Po.runs_mk, Po.runs_mk, if_neg (by decide), if_pos rfl, if_neg (by decide), if_pos rfl, put_with ⟨ha.1, ha.2⟩ hv, put_with ⟨ha.1, ha.2⟩ hv, sub_with ⟨ha.1, ha.2⟩ (by omega)]
      simp
    · rw [Po.runs_mk, Po.runs_mk]
      simp only [show ¬ (3 : Int) = 1 by decide, show ¬ (3 : Int) = 2 by decide, if_false, if_true]
      exact Q_sub sw V t h0 l ik ih u hu w
    · rw [Po.runs_mk, Po.runs_mk]
      simp only [show ¬ (4 : Int) = 1 by decide, show ¬ (4 : Int) = 2 by decide, show ¬ (4 : Int) = 3 by decide, if_false, if_true]
      rw [Po.mem_runsU]
      constructor
      · rintro (hw | ⟨y, hy, hw⟩)
        · cases hw
        · obtain ⟨z, hz, e⟩ := (ih y hy u hu w).1 hw
          exact ⟨z, (Po.mem_runsU sw u z l []).2 (.inr ⟨y, hy, hz⟩), e⟩
      · rintro ⟨z, hz, e⟩
        rcases (Po.mem_runsU sw u z l []).1 hz with hz | ⟨y, hy, hz⟩
        · cases hz
        · exact .inr ⟨y, hy, (ih y hy u hu w).2 ⟨z, hz, e⟩⟩
    · match l, hl with
      | [b, c], _ =>
        have hR : ∀ s, Po.runs sw (.mk 5 p a v [b, c]) s = if Pd.hits (s.at_ sw) p = true then Po.runs sw b s else Po.runs sw c s := fun s => by
          rw [Po.runs_mk, Po.runsA, Po.runsB, Po.runsA]; simp
        rw [hR, hR, hits_sub sw V t u hu p (Po.right_fits hp) hV1]
        split
        · exact ih b (by simp) u hu w
        · exact ih c (by simp) u hu w
theorem gt_kn (y : Po.T) (t : S) {f : Int} (hf : ok f) : ∀ (fs : List Int) (s : S), (∀ g ∈ fs, ok g) → gt f (kn y t fs s) = if f ∈ fs ∧ gt f t ∈ Po.values f y then gt f t else gt f s
  | [], s, _ => by rw [kn, if_neg (by simp)]
  | g :: rest, s, h => by
    have ih := gt_kn y t hf rest (if gt g t ∈ Po.values g y then withK g (gt g t) s else s) fun g hg => h g (by simp [hg])
    rw [kn, ih]
    have hother : f ≠ g → gt f (if gt g t ∈ Po.values g y then withK g (gt g t) s else s) = gt f s := fun e => by
      by_cases hg : gt g t ∈ Po.values g y
      · rw [if_pos hg, gt_other _ s (h g (by simp)) hf e]
      · rw [if_neg hg]
    by_cases hv : gt f t ∈ Po.values f y
    · by_cases hr : f ∈ rest
      · rw [if_pos (show f ∈ rest ∧ _ from ⟨hr, hv⟩), if_pos (show f ∈ g :: rest ∧ gt f t ∈ Po.values f y from ⟨by simp [hr], hv⟩)]
      · rw [if_neg (show ¬ (f ∈ rest ∧ gt f t ∈ Po.values f y) from fun h => hr h.1)]
        by_cases e : f = g
        · subst e
          rw [if_pos hv, if_pos (show f ∈ f :: rest ∧ gt f t ∈ Po.values f y from ⟨by simp, hv⟩), gt_same]
        · rw [if_neg (show ¬ (f ∈ g :: rest ∧ gt f t ∈ Po.values f y) from fun h => by rcases List.mem_cons.1 h.1 with h | h; exact e h; exact hr h), hother e]
    · rw [if_neg (show ¬ (f ∈ rest ∧ gt f t ∈ Po.values f y) from fun h => hv h.2), if_neg (show ¬ (f ∈ g :: rest ∧ gt f t ∈ Po.values f y) from fun h => hv h.2)]
      by_cases e : f = g
      · subst e; rw [if_neg hv]
      · exact hother e
/-- The case that is found, filled in, tells what comes of the packet. -/
theorem found_runs (sw : Int) (x : Po.T) (hx : Po.fits x = true) (t : S) (ht : ∀ f, ok f → 0 ≤ gt f t) :
    ∃ c, (all sw x).find? (hit t) = some c ∧ (c.out.map (sub t)).Nodup ∧ ∀ w, w ∈ c.out.map (sub t) ↔ w ∈ Po.runs sw x t := by
  have hyf := Po.spec_fits sw x hx
  have hrun := fun s => Po.spec_runs sw sw _ x (Nat.le_refl _) hx s
  unfold all
  generalize Po.spec sw x = y at *
  have hv0 : ∀ f, ∀ v ∈ Po.values f y, 0 ≤ v := fun f v hv => (Po.vals_top f y hyf v ((Po.values_mem f y v).1 hv)).1
  have hord : ∀ f ∈ order, ok f := fun f h => mem_order.1 h
  have hst : ∀ f, gt f start = -1 := fun f => by
    unfold gt start
    repeat' split
    all_goals rfl
  obtain ⟨c, hc, ho⟩ := cases_find sw y t hv0 order start hord (by decide) (fun f _ => .inl (hst f)) fun f _ => hst f
  refine ⟨c, hc, ?_⟩
  have hk : ∀ f, ok f → gt f (kn y t order start) = if gt f t ∈ Po.values f y then gt f t else -1 := fun f hf => by
    rw [gt_kn y t hf order start hord, hst]
    by_cases e : gt f t ∈ Po.values f y
    · rw [if_pos ⟨mem_order.2 hf, e⟩, if_pos e]
    · rw [if_neg (fun h => e h.2), if_neg e]
  generalize kn y t order start = k at *
  have hfree : Free (fun f v => v ∈ Po.values f y) t k := fun f hf e h => by
    rw [hk f hf, if_pos h] at e
    have := ht f hf
    omega
  have hkeep := runs_keep sw (fun f v => v ∈ Po.values f y) _ y (Nat.le_refl _) hyf (fun f v _ h => (Po.values_mem f y v).2 h) k
  have hsub := runs_sub sw (fun f v => v ∈ Po.values f y) t (fun f v _ => hv0 f v) _ y (Nat.le_refl _) hyf (fun f v _ h => (Po.values_mem f y v).2 h) k hfree
  have ekt : sub t k = t := S_ext fun f hf => by
    rw [gt_sub hf, hk f hf]
    by_cases e : gt f t ∈ Po.values f y
    · rw [if_pos e]; split <;> rfl
    · rw [if_neg e]; rfl
  rw [ekt] at hsub
  have hcame : ∀ u ∈ Po.runs sw y k, sub t (cameS k u) = sub t u := fun u hu => S_ext fun f hf => by
    rw [gt_sub hf, gt_sub hf, gt_came hf]
    by_cases h4 : f = 4
    · rw [if_pos h4]
    · rw [if_neg h4]
      unfold came
      by_cases e : gt f u = gt f k
      · rw [if_pos e, if_pos rfl, e, hk f hf]
        by_cases e2 : gt f t ∈ Po.values f y
        · rw [if_pos e2]; split <;> rfl
        · rw [if_neg e2]; rfl
      · rw [if_neg e]
  have hmo : ∀ o, o ∈ c.out ↔ ∃ u ∈ Po.runs sw y k, cameS k u = o := fun o => by
    rw [ho, outs, Po.mem_both, List.mem_map]
    simp
  refine ⟨?_, fun w => ?_⟩
  · rw [List.Nodup, List.pairwise_map]
    have hris : Po.Rising c.out := by rw [ho]; exact outs_rising sw y k
    refine List.Pairwise.imp_of_mem (fun {a b} ha hb hab e => ?_) hris
    obtain ⟨u1, hu1, rfl⟩ := (hmo a).1 ha
    obtain ⟨u2, hu2, rfl⟩ := (hmo b).1 hb
    rw [hcame u1 hu1, hcame u2 hu2] at e
    have : u1 = u2 := S_ext fun f hf => by
      have e1 : gt f (sub t u1) = gt f (sub t u2) := by rw [e]
      rw [gt_sub hf, gt_sub hf] at e1
      have k1 := hkeep u1 hu1 f hf
      have k2 := hkeep u2 hu2 f hf
      have hkf := hk f hf
      have h0 := ht f hf
      have hneg : ∀ v, v ∈ Po.values f y → v ≠ -1 := fun v hv h => by have := hv0 f v hv; omega
      by_cases e2 : gt f t ∈ Po.values f y
      · rw [if_pos e2] at hkf
        have n1 : gt f u1 ≠ -1 := by
          rcases k1 with h | h
          · rw [h, hkf]; omega
          · exact hneg _ h
        have n2 : gt f u2 ≠ -1 := by
          rcases k2 with h | h
          · rw [h, hkf]; omega
          · exact hneg _ h
        rw [if_neg n1, if_neg n2] at e1
        exact e1
      · rw [if_neg e2] at hkf
        by_cases n1 : gt f u1 = -1
        · by_cases n2 : gt f u2 = -1
          · rw [n1, n2]
          · rw [if_pos n1, if_neg n2] at e1
            rcases k2 with h | h
            · exact absurd (h.trans hkf) n2
            · exact absurd (e1 ▸ h) e2
        · rw [if_neg n1] at e1
          rcases k1 with h | h
          · exact absurd (h.trans hkf) n1
          · by_cases n2 : gt f u2 = -1
            · rw [if_pos n2] at e1
              exact absurd (e1 ▸ h) e2
            · rw [if_neg n2] at e1
              exact e1
    rw [this] at hab
    exact Po.ahead_irrefl _ hab
  · rw [List.mem_map, ← hrun t, hsub w]
    constructor
    · rintro ⟨o, ho, rfl⟩
      obtain ⟨u, hu, rfl⟩ := (hmo o).1 ho
      exact ⟨u, hu, hcame u hu⟩
    · rintro ⟨u, hu, rfl⟩
      exact ⟨cameS k u, (hmo _).2 ⟨u, hu, rfl⟩, hcame u hu⟩
/-- What is told of those that come is told once. -/
theorem came_nodup (sw : Int) (y : Po.T) (hf : Po.fits y = true) (s : S) : ((Po.runs sw y s).map (cameS s)).Nodup := by
  rw [List.Nodup, List.pairwise_map]
  have hkeep := runs_keep sw (fun f v => 0 ≤ v) _ y (Nat.le_refl _) hf (fun f v _ h => (Po.vals_top f y hf v h).1) s
  refine List.Pairwise.imp_of_mem (fun {a b} ha hb hab e => ?_) (Po.runs_rising sw s _ y (Nat.le_refl _))
  have : a = b := S_ext fun f hfo => by
    have e1 : gt f (cameS s a) = gt f (cameS s b) := by rw [e]
    rw [gt_came hfo, gt_came hfo] at e1
    have k1 := hkeep a ha f hfo
    have k2 := hkeep b hb f hfo
    split at e1
    · exact e1
    · unfold came at e1
      split at e1 <;> split at e1 <;> omega
  rw [this] at hab
  exact Po.ahead_irrefl _ hab
theorem outs_mem (sw : Int) (y : Po.T) (s t : S) : t ∈ (Po.runs sw y s).map (cameS s) ↔ t ∈ outs sw y s := by
  rw [outs, Po.mem_both]; simp
end Tr
end Go.Proofs.YtaolcaggdddkpaaGreat
