/-
  Policies: laws of what comes of a packet. Plain; Trees: what the case that is found makes of a packet. Plain.
-/
import Derived.Test.YtaolcaggdddkpaaGreatJ5
namespace Go.Proofs.YtaolcaggdddkpaaGreat
open Go.Sx
set_option maxRecDepth 20000
set_option linter.unusedVariables false
namespace Po
theorem mem_seq1 (sw : Int) (y : T) (l : List T) (out : List S) (t : S) : t ∈ runsQ sw (y :: l) out ↔ t ∈ runsQ sw l (thenS sw y out) := by rw [runsQ]; exact Iff.rfl
theorem mem_runsQ (sw : Int) (t : S) : ∀ (l : List T) (out : List S), t ∈ runsQ sw l out ↔ ∃ s ∈ out, t ∈ runsQ sw l [s]
  | [], out => by simp [runsQ]
  | y :: l, out => by
    have e1 : ∀ o, runsQ sw (y :: l) o = runsQ sw l (thenS sw y o) := fun o => by rw [runsQ]; rfl
    rw [e1, mem_runsQ sw t l]
    constructor
    · rintro ⟨u, hu, ht⟩
      obtain ⟨s, hs, hu⟩ := (mem_then sw y u out).1 hu
      exact ⟨s, hs, by rw [e1, mem_runsQ sw t l]; exact ⟨u, (mem_then sw y u [s]).2 ⟨s, by simp, hu⟩, ht⟩⟩
    · rintro ⟨s, hs, ht⟩
      rw [e1, mem_runsQ sw t l] at ht
      obtain ⟨u, hu, ht⟩ := ht
      obtain ⟨s', hs', hu⟩ := (mem_then sw y u [s]).1 hu
      rw [List.mem_singleton.1 hs'] at hu
      exact ⟨u, (mem_then sw y u out).2 ⟨s, hs, hu⟩, ht⟩
theorem mem_Q0 (sw : Int) (s t : S) : t ∈ runsQ sw [] [s] ↔ t = s := by simp [runsQ]
theorem mem_Q1 (sw : Int) (y : T) (l : List T) (s t : S) : t ∈ runsQ sw (y :: l) [s] ↔ ∃ u ∈ runs sw y s, t ∈ runsQ sw l [u] := by
  rw [mem_seq1, mem_runsQ]
  constructor
  · rintro ⟨u, hu, ht⟩
    obtain ⟨s', hs', hu⟩ := (mem_then sw y u [s]).1 hu
    rw [List.mem_singleton.1 hs'] at hu
    exact ⟨u, hu, ht⟩
  · rintro ⟨u, hu, ht⟩
    exact ⟨u, (mem_then sw y u [s]).2 ⟨s, by simp, hu⟩, ht⟩
theorem ptop_top {f : Int} (h : 0 ≤ f ∧ f < 4) : ptop f = Pd.top f := by
  unfold ptop Pd.top
  rw [if_neg (by omega : ¬ (f = 4 ∨ f = 5))]
end Po
end Go.Proofs.YtaolcaggdddkpaaGreat
namespace Go.Proofs.YtaolcaggdddkpaaGreat
open Go.Sx
set_option maxRecDepth 20000
set_option linter.unusedVariables false
namespace Tr
open Po (S)
theorem ok5 {f : Int} (h : ok f) : f = 0 ∨ f = 1 ∨ f = 2 ∨ f = 3 ∨ f = 4 := by omega
theorem gt_came {f : Int} (hf : ok f) (k u : S) : gt f (cameS k u) = if f = 4 then gt f u else came (gt f u) (gt f k) := by
  rcases ok5 hf with rfl | rfl | rfl | rfl | rfl <;> rfl
theorem put_with {f v : Int} (hf : ok f) (hv : 0 ≤ v ∧ v ≤ Pd.top f) (u : S) : Po.put f v u = withK f v u := by
  unfold Po.put withK
  by_cases h4 : f = 4
  · rw [if_pos h4, if_pos h4]
  · rw [if_neg h4, if_neg h4]
    have e := Po.ptop_top (f := f) (by omega)
    unfold Po.withS
    rw [e, if_pos ⟨by omega, hv⟩]
theorem pd_of {k : Int} {p : Pd.T} {a w : Int} {l : List Po.T} {V : Int → Int → Prop} (hV : ∀ f v, ok f → v ∈ Po.vals f (.mk k p a w l) → V f v) : (∀ f v, ok f → v ∈ Pd.vals f p → V f v) ∧ (∀ y ∈ l, ∀ f v, ok f → v ∈ Po.vals f y → V f v) := by
  refine ⟨fun f v hf hv => hV f v hf ?_, fun y hy f v hf hv => hV f v hf ?_⟩
  · rw [Po.vals_mk, List.mem_append, List.mem_append, Pd.values_mem]
    exact .inr (.inl hv)
  · rw [Po.vals_mk, List.mem_append, List.mem_append, Po.mem_valsL]
    exact .inr (.inr ⟨y, hy, hv⟩)
theorem Q_keep (sw : Int) (V : Int → Int → Prop) : ∀ (l : List Po.T), (∀ y ∈ l, ∀ u w, w ∈ Po.runs sw y u → ∀ f, ok f → gt f w = gt f u ∨ V f (gt f w)) → ∀ u w, w ∈ Po.runsQ sw l [u] → ∀ f, ok f → gt f w = gt f u ∨ V f (gt f w)
  | [], _, u, w, hw, f, hf => by rw [(Po.mem_Q0 sw u w).1 hw]; exact .inl rfl
  | y :: l, h, u, w, hw, f, hf => by
    obtain ⟨u', hu, hw⟩ := (Po.mem_Q1 sw y l u w).1 hw
    rcases Q_keep sw V l (fun z hz => h z (by simp [hz])) u' w hw f hf with e | e
    · rw [e]; exact h y (by simp) u u' hu f hf
    · exact .inr e
/-- A field stays, or gets a number of its own. -/
theorem runs_keep (sw : Int) (V : Int → Int → Prop) : ∀ (n : Nat) (x : Po.T), Po.tot x ≤ n → Po.fits x = true → (∀ f v, ok f → v ∈ Po.vals f x → V f v) → ∀ u w, w ∈ Po.runs sw x u → ∀ f, ok f → gt f w = gt f u ∨ V f (gt f w)
  | 0, x, hn, _, _ => absurd (Po.tot_pos x) (by omega)
  | n + 1, ⟨k, p, a, v, l⟩, hn, h, hV => fun u w hw f hf => by
    obtain ⟨hsh, hfl⟩ := Po.fits_iff.1 h
    have hV2 := (pd_of hV).2
    have ih : ∀ y ∈ l, ∀ u w, w ∈ Po.runs sw y u → ∀ f, ok f → gt f w = gt f u ∨ V f (gt f w) := fun y hy => runs_keep sw V n y (by have := Po.tot_lt (k := k) (q := p) (f := a) (v := v) hy; omega) (hfl y hy) (hV2 y hy)
    rcases hsh with ⟨rfl, _, _, hl⟩ | ⟨rfl, rfl, ha, hv, hl⟩ | ⟨rfl | rfl, _, _, hl1, hl2⟩ | ⟨rfl, _, _, hl⟩
    · rw [Po.runs_mk, if_pos rfl] at hw
      split at hw
      · rw [List.mem_singleton.1 hw]; exact .inl rfl
      · cases hw
    · rw [Po.runs_mk, if_neg (by decide), if_pos rfl, List.mem_singleton] at hw
      rw [hw, put_with ⟨ha.1, ha.2⟩ hv]
      by_cases e : f = a
      · subst e
        rw [gt_same]
        refine .inr (hV f v hf ?_)
        rw [Po.vals_mk, if_pos ⟨rfl, rfl⟩]
        simp
      · rw [gt_other v u ⟨ha.1, ha.2⟩ hf e]; exact .inl rfl
    · rw [Po.runs_mk, if_neg (by decide), if_neg (by decide), if_pos rfl] at hw
      exact Q_keep sw V l ih u w hw f hf
    · rw [Po.runs_mk, if_neg (by decide), if_neg (by decide), if_neg (by decide), if_pos rfl, Po.mem_runsU] at hw
      rcases hw with hw | ⟨y, hy, hw⟩
      · cases hw
      · exact ih y hy u w hw f hf
    · match l, hl with
      | [b, c], _ =>
        have hR : Po.runs sw (.mk 5 p a v [b, c]) u = if Pd.hits (u.at_ sw) p = true then Po.runs sw b u else Po.runs sw c u := by
          rw [Po.runs_mk, Po.runsA, Po.runsB, Po.runsA]; simp
        rw [hR] at hw
        split at hw
        · exact ih b (by simp) u w hw f hf
        · exact ih c (by simp) u w hw f hf
/-- What is told of those that come is told once. -/
theorem came_nodup (sw : Int) (y : Po.T) (hf : Po.fits y = true) (s : S) : ((Po.runs sw y s).map (cameS s)).Nodup := by
  rw [List.Nodup, List.pairwise_map]
  have hkeep := runs_keep sw (fun f v => 0 ≤ v) _ y (Nat.le_refl _) hf (fun f v _ h => (Po.vals_top f y hf v h).1) s
  refine List.Pairwise.imp_of_mem (fun {a b} ha hb hab e => ?_) (Po.runs_rising sw s _ y (Nat.le_refl _))
  have : a = b := S_ext fun f hfo => by
    have e1 : gt f (cameS s a) = gt f (cameS s b) := by rw [e]
    rw [gt_came hfo, gt_came hfo] at e1
    have k1 := hkeep a ha f hfo
    have k2 := hkeep b hb f hfo
    split at e1
    · exact e1
    · unfold came at e1
      split at e1 <;> split at e1 <;> omega
  rw [this] at hab
  exact Po.ahead_irrefl _ hab
theorem outs_mem (sw : Int) (y : Po.T) (s t : S) : t ∈ (Po.runs sw y s).map (cameS s) ↔ t ∈ outs sw y s := by
  rw [outs, Po.mem_both]; simp
end Tr
end Go.Proofs.YtaolcaggdddkpaaGreat
