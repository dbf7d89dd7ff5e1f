import Derived.Test.YtpanhdnglicknaaGreatW3
import Derived.Test.YtpanhdnglicknaaGreatPskZ
import Derived.Test.YtpanhdnglicknaaGreatPskP
import Derived.Test.YtpanhdnglicknaaGreatPringA
import Derived.Test.YtpanhdnglicknaaGreatPringB
import Derived.Test.YtpanhdnglicknaaGreatPringC
import Derived.Test.YtpanhdnglicknaaGreatPringD
import Derived.Test.YtpanhdnglicknaaGreatPringE
import Derived.Test.YtpanhdnglicknaaGreatPringF
import Derived.Test.YtpanhdnglicknaaGreatPtinyZ
import Derived.Test.YtpanhdnglicknaaGreatPtinyB
import Derived.Test.YtpanhdnglicknaaGreatPtinyC
import Derived.Test.YtpanhdnglicknaaGreatPtinyY
import Derived.Test.YtpanhdnglicknaaGreatParcA
import Derived.Test.YtpanhdnglicknaaGreatParcB
import Derived.Test.YtpanhdnglicknaaGreatPpolA
import Derived.Test.YtpanhdnglicknaaGreatPstA
import Derived.Test.YtpanhdnglicknaaGreatPstB
import Derived.Test.YtpanhdnglicknaaGreatPstC
import Derived.Test.YtpanhdnglicknaaGreatPstD
import Derived.Test.YtpanhdnglicknaaGreatPstG
import Derived.Test.YtpanhdnglicknaaGreatPstH
import Derived.Test.YtpanhdnglicknaaGreatPstO
import Derived.Test.YtpanhdnglicknaaGreatPstX
import Derived.Test.YtpanhdnglicknaaGreatPstY
set_option linter.unusedVariables false
set_option linter.unusedSectionVars false
set_option linter.unusedSimpArgs false
set_option maxRecDepth 100000
set_option maxHeartbeats 8000000

namespace Go.Proofs.YtpanhdnglicknaaGreat.Pure
open Go Go.Proofs.YtpanhdnglicknaaGreat.Hw Go.Proofs.YtpanhdnglicknaaGreat

/-- Does an entry stay, at a tick? -/
def stays (at_ : UInt64) (e : api_Entry) : Bool := (e.End == 0) || decide (at_ < e.End)
theorem mark_l0 (a2 now : UInt64) (ss : Option store_Store) (b : Bool) (L : List api_Entry) (hL : L.length ≤ 5000) : ∀ (f i c : Nat), f = L.length - i + 1 → i ≤ L.length → c ≤ i →
    hawthornlaw12_StoreMarks_l0 a2 (ss, now, b) L f (c : Int) (i : Int) = some ((c + ((L.drop i).filter (stays (now + (a2 &&& 15)))).length : Nat) : Int) := by
  intro f
  induction f with
  | zero => intro i c h; omega
  | succ f ih =>
    intro i c hf hi hc
    unfold hawthornlaw12_StoreMarks_l0
    by_cases q : i < L.length
    · rw [if_pos (by simpa using q), gN q, Option.bind_some, i_a1 (j := i) (by omega), drop_at' q, List.filter_cons]
      by_cases s : stays (now + (a2 &&& 15)) L[i] = true
      · rw [if_pos s]
        unfold stays at s
        dsimp only
        rw [if_pos s, Option.bind_some, i_a1 (j := c) (by omega), ih (i + 1) (c + 1) (by omega) (by omega) (by omega), List.length_cons]
        congr 2; omega
      · rw [if_neg s]
        unfold stays at s
        dsimp only
        rw [if_neg s, Option.bind_some, ih (i + 1) c (by omega) (by omega) (by omega)]
    · rw [if_neg (by simpa using q), List.drop_eq_nil_of_le (by omega)]; simp
theorem left_len {t t' : table_Table} {K K' : List Str} (ht : TB K t) (ht' : TB K' t') {nw : UInt64} (g1 : ∀ k, endsAt t.m nw k → mget t'.m k = none) (g2 : ∀ k, ¬ endsAt t.m nw k → mget t'.m k = mget t.m k) :
    t'.m.length = ((listed t.m).filter (stays nw)).length := by
  have c0 : (0 : UInt64).toNat = 0 := rfl
  have hst : ∀ k e, mget t.m k = some e → (stays nw e = true ↔ ¬ endsAt t.m nw k) := fun k e he => by
    unfold stays
    simp only [Bool.or_eq_true, beq_iff_eq, decide_eq_true_eq, UInt64.lt_iff_toNat_lt]
    constructor
    · rintro h ⟨e', he', h1, h2⟩
      rw [he] at he'; cases he'
      rcases h with h | h
      · rw [h] at h1; exact h1 c0
      · omega
    · intro h
      by_cases z : e.End = 0
      · exact .inl z
      · right
        have : e.End.toNat ≠ 0 := fun w => z (UInt64.toNat_inj.1 (by rw [w, c0]))
        rcases Nat.lt_or_ge nw.toNat e.End.toNat with w | w
        · exact w
        · exact absurd ⟨e, he, this, w⟩ h
  have h1 : ((listed t.m).filter (stays nw)).length = ((t.m.map (·.2)).filter (stays nw)).length := ((listed_pm ht.uk).filter _).length_eq
  have h2 : ((t.m.map (·.2)).filter (stays nw)).length = ((t.m.filter fun q => stays nw q.2).map (·.1)).length := by
    rw [List.filter_map, List.length_map, List.length_map]; rfl
  have h3 : (keys t'.m).Perm ((t.m.filter fun q => stays nw q.2).map (·.1)) := by
    refine (List.perm_ext_iff_of_nodup ht'.uk ((List.filter_sublist.map _).nodup ht.uk)).2 fun k => ?_
    rw [show k ∈ List.map (·.1) t'.m ↔ k ∈ keys t'.m from Iff.rfl, keys_mem, List.mem_map]
    constructor
    · rintro ⟨e, he⟩
      have hne : ¬ endsAt t.m nw k := fun z => by rw [g1 k z] at he; cases he
      rw [g2 k hne] at he
      exact ⟨(k, e), List.mem_filter.2 ⟨mget_mem he, (hst k e he).2 hne⟩, rfl⟩
    · rintro ⟨⟨k', e⟩, hq, rfl⟩
      obtain ⟨q1, q2⟩ := List.mem_filter.1 hq
      have he := mem_mget ht.uk q1
      exact ⟨e, by rw [g2 _ ((hst _ e he).1 q2)]; exact he⟩
  rw [h1, h2, ← h3.length_eq]
  unfold keys; simp
theorem StoreMarks (x : api_Config) (l : List hawthornlaw12_Act) (a : UInt64) {p1 p2 p3 : Prop} (_ : p1) (_ : p2) (_ : p3) : hawthornlaw12_StoreMarks x l a = some true := by
  obtain ⟨n, B, c, s, now, e, ⟨⟨t, p, K, hS⟩, hP, hn⟩, hn2⟩ := played_ok x l
  have ha : (a &&& 15).toNat ≤ 15 := and_le a 15 (by omega)
  have hat : (now + (a &&& 15)).toNat = now.toNat + (a &&& 15).toNat := by rw [UInt64.toNat_add]; omega
  have c0 : (0 : UInt64).toNat = 0 := rfl
  have c99 : (99 : UInt64).toNat = 99 := rfl
  obtain ⟨r, er, s1, t1, p1, K1, e3, hS1, hx⟩ := hS.apply (by omega) ⟨store_Store_Seq s + 1, now + (a &&& 15), 99, 1, ⟨5, [], [], 0, 0⟩⟩
  have hsn : (store_Store_Seq s).toNat ≤ 60 := hS.sn
  have hck : op_Check ⟨5, [], [], 0, 0⟩ = true := by decide
  have hsq : (((store_Store_Seq s + 1) == 0) || (((store_Store_Seq s + 1) - 1) != s.seq)) = false := seq_ok (by omega)
  rcases hx with ⟨_, _, _, z | z⟩ | ⟨rfl, _, _, hx⟩
  · dsimp only at z; rw [hck] at z; cases z
  · dsimp only at z; rw [hsq] at z; cases z
  · rcases hx.cs with ⟨a1, a2, a3, g1, g2, _⟩ | ⟨b1, _⟩
    · have hr : r = ⟨0, [], 0⟩ := by
        rcases a3 with ⟨_, z⟩ | ⟨z, _⟩
        · exact z
        · exact absurd rfl z
      have em : mx s.now (now + (a &&& 15)) = now + (a &&& 15) := by apply UInt64.toNat_inj.1; rw [mx_n]; omega
      dsimp only at g1 g2
      rw [em] at g1 g2
      have hlen := left_len hS.tb hS1.tb g1 g2
      have hl := hS.tb.len
      have hK := hS.tb.le
      have hll := listed_len t.m
      have hll1 := listed_len t1.m
      have L0 := mark_l0 a now (some s) true (listed t.m) (by omega) ((((listed t.m).length : Int) - 0).toNat + 1) 0 0 (by omega) (by omega) (by omega)
      rw [List.drop_zero, Nat.zero_add] at L0
      have hTold : (store_Store_Told s1 99).2.2 = false := by
        unfold store_Store_Told
        dsimp only
        rw [a1]
        cases hg : mget s.sessions (99 : UInt64) with
        | none => rfl
        | some l' => have := (hP _ _ hg).1; omega
      have hnow : decide (now + (a &&& 15) ≤ store_Store_Now s1) = true := by
        unfold store_Store_Now
        rw [hx.now]; dsimp only; rw [em]; simp
      have hseq : (store_Store_Seq s1 == store_Store_Seq s + 1) = true := by
        have : store_Store_Seq s1 = store_Store_Seq s + 1 := hx.seq
        rw [this]; simp
      have htl : decide (store_Store_Tally s1 = store_Store_Tally s) = true := by
        have : store_Store_Tally s1 = store_Store_Tally s := a2
        rw [this]; simp
      unfold hawthornlaw12_StoreMarks
      rw [e, Option.bind_some, awake12, Option.bind_some, if_neg (by simp)]
      dsimp only
      rw [om_some, hS.ent, Option.bind_some, e3, Option.bind_some, lt_eq]
      dsimp only
      rw [show hawthornlaw12_StoreMarks_l0 a (some s, now, true) (listed t.m) ((((listed t.m).length : Int) - 0).toNat + 1) 0 0 = _ from L0, Option.bind_some, hTold, hr, if_pos (by simp), if_pos hseq, if_pos htl, hS1.ent, Option.bind_some, if_pos (by rw [hll1, hlen]; simp), hnow]
    · exact absurd rfl b1
end Go.Proofs.YtpanhdnglicknaaGreat.Pure
