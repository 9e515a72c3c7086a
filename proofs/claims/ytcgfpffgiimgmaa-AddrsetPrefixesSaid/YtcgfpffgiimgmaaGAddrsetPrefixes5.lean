/- The law AddrsetPrefixes answers true for every input and leaves its arguments as they were. No condition. (Part 5 of 5: the kit's printed words and walks, hand-made contracts and plain laws, joined in build order, without what the theorem does not reach.) -/
import Derived.Test.YtcgfpffgiimgmaaRows
import Derived.WalkKit
import Derived.ProofKit
import Derived.OpenShut
import Derived.ShutString
import Derived.ChangeOld
import Derived.Below
import Derived.SizedLaws
import Derived.Carry
import Derived.Test.YtcgfpffgiimgmaaGAddrsetPrefixes4
section
set_option linter.unusedVariables false
set_option linter.unusedSimpArgs false
namespace Go.Proofs.Ytcgfpffgiimgmaa.Q
open Go.RowKit Go.Proofs.YtcgfpffgiimgmaaW.PrintWords Go.Proofs.YtcgfpffgiimgmaaW.PrintLast Go.Proofs.YtcgfpffgiimgmaaW.PrintMore Go.Proofs.Ytcgfpffgiimgmaa.Canon
theorem wid {x : Int} (h0 : -9223372036854775808 ≤ x) (h1 : x ≤ 9223372036854775807) : wrap64 x = x := by unfold wrap64; omega
theorem wsucc (i : Nat) (h : i < 9223372036854775807) : wrap64 ((i : Int) + 1) = ((i + 1 : Nat) : Int) := by rw [wid (by omega) (by omega)]; simp
theorem wpred (i : Nat) (h0 : 0 < i) (h : i < 9223372036854775807) : wrap64 ((i : Int) - 1) = ((i - 1 : Nat) : Int) := by rw [wid (by omega) (by omega)]; omega
theorem dropc {α : Type} (l : List α) (i : Nat) (h : i < l.length) : l.drop i = l[i] :: l.drop (i + 1) := List.drop_eq_getElem_cons h
def rsp (r : Rg) : Sp := (av r.f0, av r.f1)
def ASM (l : List Rg) (n : Int) : Prop := ∃ x ∈ l, RW x ∧ av x.f0 ≤ n ∧ n ≤ av x.f1
theorem asm_nil (n : Int) : ASM [] n ↔ False := by simp [ASM]
theorem asm_cons (x : Rg) (t : List Rg) (n : Int) : ASM (x :: t) n ↔ (RW x ∧ av x.f0 ≤ n ∧ n ≤ av x.f1) ∨ ASM t n := by
  unfold ASM
  simp only [List.mem_cons]
  constructor
  · rintro ⟨y, rfl | hy, h⟩
    · exact .inl h
    · exact .inr ⟨y, hy, h⟩
  · rintro (h | ⟨y, hy, h⟩)
    · exact ⟨x, .inl rfl, h⟩
    · exact ⟨y, .inr hy, h⟩
theorem asm_append (a b : List Rg) (n : Int) : ASM (a ++ b) n ↔ ASM a n ∨ ASM b n := by
  unfold ASM
  simp only [List.mem_append]
  constructor
  · rintro ⟨y, hy | hy, h⟩
    · exact .inl ⟨y, hy, h⟩
    · exact .inr ⟨y, hy, h⟩
  · rintro (⟨y, hy, h⟩ | ⟨y, hy, h⟩)
    · exact ⟨y, .inl hy, h⟩
    · exact ⟨y, .inr hy, h⟩
theorem asm_perm {a b : List Rg} (h : a.Perm b) (n : Int) : ASM a n ↔ ASM b n := by
  unfold ASM
  constructor
  · rintro ⟨x, hx, g⟩; exact ⟨x, h.mem_iff.1 hx, g⟩
  · rintro ⟨x, hx, g⟩; exact ⟨x, h.mem_iff.2 hx, g⟩
theorem asm_filter (l : List Rg) (hl : ∀ x ∈ l, RB x) (n : Int) : ASM (l.filter someB) n ↔ ASM l n := by
  unfold ASM
  constructor
  · rintro ⟨x, hx, g⟩; exact ⟨x, (List.mem_filter.1 hx).1, g⟩
  · rintro ⟨x, hx, g⟩; exact ⟨x, List.mem_filter.2 ⟨hx, (some_iff (hl x hx)).2 g.1⟩, g⟩
theorem asm_mem {l : List Rg} (hl : ∀ x ∈ l, RW x) (n : Int) : ASM l n ↔ Mem (l.map rsp) n := by
  unfold ASM Mem
  constructor
  · rintro ⟨x, hx, _, h⟩; exact ⟨rsp x, List.mem_map.2 ⟨x, hx, rfl⟩, h⟩
  · rintro ⟨y, hy, h⟩
    obtain ⟨x, hx, rfl⟩ := List.mem_map.1 hy
    exact ⟨x, hx, hl x hx, h⟩
def ACan (P : Int → Prop) (r : List Rg) : Prop := CanFrom 0 (r.map rsp) ∧ (∀ x ∈ r, RW x) ∧ ∀ n, ASM r n ↔ P n
theorem rsp_inj {x y : Rg} (hx : RW x) (hy : RW y) (h : rsp x = rsp y) : x = y := by
  unfold rsp at h
  injection h with h1 h2
  have e1 := av_inj hx.1.1 hy.1.1 h1
  have e2 := av_inj hx.2.1.1 hy.2.1.1 h2
  cases x; cases y
  simp only at e1 e2
  rw [e1, e2]
theorem map_rsp_inj : ∀ {a b : List Rg}, (∀ x ∈ a, RW x) → (∀ x ∈ b, RW x) → a.map rsp = b.map rsp → a = b
  | [], [], _, _, _ => rfl
  | [], y :: t, _, _, h => by simp at h
  | x :: s, [], _, _, h => by simp at h
  | x :: s, y :: t, ha, hb, h => by
    simp only [List.map_cons, List.cons.injEq] at h
    rw [rsp_inj (ha x (List.mem_cons_self ..)) (hb y (List.mem_cons_self ..)) h.1, map_rsp_inj (fun z hz => ha z (List.mem_cons_of_mem _ hz)) (fun z hz => hb z (List.mem_cons_of_mem _ hz)) h.2]
theorem ACan.uniq {P : Int → Prop} {a b : List Rg} (ha : ACan P a) (hb : ACan P b) : a = b :=
  map_rsp_inj ha.2.1 hb.2.1 (Canon.uniq _ _ 0 ha.1 hb.1 (fun n => by rw [← asm_mem ha.2.1, ← asm_mem hb.2.1, ha.2.2, hb.2.2]))
theorem ACan.congr {P Q : Int → Prop} {r : List Rg} (h : ACan P r) (e : ∀ n, P n ↔ Q n) : ACan Q r := ⟨h.1, h.2.1, fun n => (h.2.2 n).trans (e n)⟩
theorem ACan.self {r : List Rg} (h1 : CanFrom 0 (r.map rsp)) (h2 : ∀ x ∈ r, RW x) : ACan (ASM r) r := ⟨h1, h2, fun _ => Iff.rfl⟩
theorem ACan.nil {P : Int → Prop} (h : ∀ n, ¬ P n) : ACan P [] := ⟨trivial, by simp, fun n => by rw [asm_nil]; exact ⟨False.elim, h n⟩⟩
theorem greaterA_spec {a b : Ad} (ha : AW a) (hb : AW b) : (greaterA a b = a ∨ greaterA a b = b) ∧ av a ≤ av (greaterA a b) ∧ av b ≤ av (greaterA a b) := by
  unfold greaterA
  have := cmp_ge' ha hb
  split
  · rename_i h
    exact ⟨.inl rfl, by omega, by omega⟩
  · rename_i h
    exact ⟨.inr rfl, by omega, by omega⟩
def mrgR (out : List Rg) (x : Rg) : List Rg :=
  if h : 0 < out.length then (if nearP (out[out.length - 1]'(by omega)) x then out.set (out.length - 1) ⟨(out[out.length - 1]'(by omega)).f0, greaterA (out[out.length - 1]'(by omega)).f1 x.f1⟩ else out ++ [x]) else out ++ [x]
theorem mrgR_nil (x : Rg) : mrgR [] x = [x] := by simp [mrgR]
theorem mrgR_snoc (i : List Rg) (y x : Rg) : mrgR (i ++ [y]) x = if nearP y x then i ++ [(⟨y.f0, greaterA y.f1 x.f1⟩ : Rg)] else i ++ [y] ++ [x] := by
  have hl : (i ++ [y]).length - 1 = i.length := by simp
  have hg : (i ++ [y])[(i ++ [y]).length - 1]'(by simp) = y := by simp
  unfold mrgR
  rw [dif_pos (by simp)]
  rw [hg, hl]
  split
  · simp
  · rfl
theorem mrgR_len (out : List Rg) (x : Rg) : out.length ≤ (mrgR out x).length ∧ (mrgR out x).length ≤ out.length + 1 := by
  unfold mrgR
  split
  · split <;> simp
  · simp
theorem foldR_len : ∀ (L out : List Rg), (L.foldl mrgR out).length ≤ out.length + L.length
  | [], out => by simp
  | x :: t, out => by
    have h1 := foldR_len t (mrgR out x)
    have h2 := (mrgR_len out x).2
    simp only [List.foldl_cons, List.length_cons]
    omega
theorem joinRW {y x : Rg} (hy : RW y) (hx : RW x) (hn : nearP y x) : RW ⟨y.f0, greaterA y.f1 x.f1⟩ := by
  obtain ⟨g1, g2, g3⟩ := greaterA_spec hy.2.1.1 hx.2.1.1
  refine ⟨hy.1, ?_, ?_, Int.le_trans hy.2.2.2 g2⟩
  · rcases g1 with e | e
    · show AF (greaterA y.f1 x.f1); rw [e]; exact hy.2.1
    · show AF (greaterA y.f1 x.f1); rw [e]; exact hx.2.1
  · show y.f0.f0 = (greaterA y.f1 x.f1).f0
    rcases g1 with e | e
    · rw [e]; exact hy.2.2.1
    · rw [e]; exact hn.1.trans hx.2.2.1
theorem mrgR_RW {out : List Rg} {x : Rg} (ho : ∀ z ∈ out, RW z) (hx : RW x) : ∀ z ∈ mrgR out x, RW z := by
  rcases List.eq_nil_or_concat out with rfl | ⟨j, y, rfl⟩
  · rw [mrgR_nil]; intro z h; rw [List.mem_singleton.1 h]; exact hx
  · have hy := ho y (by simp)
    rw [List.concat_eq_append, mrgR_snoc]
    split
    · rename_i hn
      intro z h
      rcases List.mem_append.1 h with h | h
      · exact ho z (by simp [h])
      · rw [List.mem_singleton.1 h]; exact joinRW hy hx hn
    · intro z h
      rcases List.mem_append.1 h with h | h
      · exact ho z (by rw [List.concat_eq_append]; exact h)
      · rw [List.mem_singleton.1 h]; exact hx
theorem ev_aNormal0 (L : List Rg) (hl : L.length < 2932031007402) (hL : ∀ x ∈ L, RW x) : ∀ (d i : Nat) (out : List Rg), L.length - i = d → i ≤ L.length → out.length ≤ i → (∀ x ∈ out, RW x) → Ev (fun k => addrset_Normal.l0 k out L (L.length : Int) (i : Int)) ((L.drop i).foldl mrgR out) := by
  intro d
  induction d with
  | zero =>
    intro i out hd hi ho _
    have : i = L.length := by omega
    subst this
    refine Ev.step (f := fun _ => some out) (fun k => ?_) ?_
    · simp only [addrset_Normal.l0]; rw [if_neg (by omega)]
    · simpa using Ev.now out
  | succ d ih =>
    intro i out hd hi ho hw
    have hlt : i < L.length := by omega
    have hx := hL L[i] (List.getElem_mem hlt)
    rw [dropc L i hlt, List.foldl_cons]
    have h2 := ih (i + 1) (mrgR out L[i]) (by omega) (by omega) (by have := (mrgR_len out L[i]).2; omega) (mrgR_RW hw hx)
    refine Ev.step (fun k => ?_) h2
    simp only [addrset_Normal.l0]
    rw [if_pos (by omega), if_pos (by omega), if_pos (by omega), rd_getR L i hlt]
    by_cases h0 : 0 < out.length
    · have hy := hw (out[out.length - 1]'(by omega)) (List.getElem_mem _)
      rw [show wrap64 ((out.length : Int) - 1) = ((out.length - 1 : Nat) : Int) from wpred _ h0 (by omega), if_pos (by omega), if_pos (by omega), if_pos (by omega), rd_getR out (out.length - 1) (by omega), near_eq _ _ hy hx]
      simp only [Option.bind_some]
      unfold mrgR
      rw [dif_pos h0]
      by_cases hn : nearP (out[out.length - 1]'(by omega)) L[i]
      · rw [if_pos (decide_eq_true hn), if_pos hn, greater_eq, wsucc i (by omega)]
        rfl
      · rw [if_neg (by simpa using hn), if_neg hn, if_pos (by omega), wsucc i (by omega)]
    · have e : out = [] := List.eq_nil_of_length_eq_zero (by omega)
      subst e
      rw [if_neg (by simp [wrap64]), if_pos (by simp), wsucc i (by omega), mrgR_nil]
      rfl
theorem mrgR_spec : ∀ (L i : List Rg) (y : Rg), (∀ x ∈ L, RW x) → L.Pairwise (fun a b => av a.f0 ≤ av b.f0) → (∀ x ∈ L, av y.f0 ≤ av x.f0) → CanFrom 0 ((i ++ [y]).map rsp) → (∀ x ∈ i ++ [y], RW x) → ACan (fun n => ASM (i ++ [y]) n ∨ ASM L n) (L.foldl mrgR (i ++ [y]))
  | [], i, y, _, _, _, hc, hm => by
    refine ⟨hc, hm, fun n => ?_⟩
    simp [asm_nil]
  | x :: t, i, y, hL, hp, hy, hc, hm => by
    have hx := hL x (List.mem_cons_self ..)
    have hwy := hm y (by simp)
    have ht : ∀ z ∈ t, RW z := fun z hz => hL z (List.mem_cons_of_mem _ hz)
    obtain ⟨p1, p2⟩ := List.pairwise_cons.1 hp
    rw [List.foldl_cons, mrgR_snoc]
    have hxy := hy x (List.mem_cons_self ..)
    have hni := nearP_iff hwy hx hxy
    have hc0 := hc
    rw [List.map_append, can_append] at hc
    obtain ⟨c1, c2, _, c4⟩ := hc
    simp only [List.map_cons, List.map_nil, List.mem_singleton, forall_eq] at c2 c4
    have w1 : av y.f0 ≤ av y.f1 := hwy.2.2.2
    have x2 : av x.f0 ≤ av x.f1 := hx.2.2.2
    by_cases hj : nearP y x
    · rw [if_pos hj]
      have hj2 := hni.1 hj
      obtain ⟨g1, g2, g3⟩ := greaterA_spec hwy.2.1.1 hx.2.1.1
      have hjw := joinRW hwy hx hj
      have g4 : av (greaterA y.f1 x.f1) = av y.f1 ∨ av (greaterA y.f1 x.f1) = av x.f1 := by
        rcases g1 with e | e
        · exact .inl (by rw [e])
        · exact .inr (by rw [e])
      generalize greaterA y.f1 x.f1 = m at g2 g3 g4 hjw
      have h := mrgR_spec t i ⟨y.f0, m⟩ ht p2 (fun z hz => Int.le_trans hxy (p1 z hz)) (by
        rw [List.map_append, can_append]
        refine ⟨c1, ?_, ⟨av y.f0, by simp [rsp, CanFrom]; omega⟩, ?_⟩
        · intro z hz u hu
          simp only [List.map_cons, List.map_nil, List.mem_singleton] at hu
          subst hu
          exact c2 z hz
        · intro u hu
          simp only [List.map_cons, List.map_nil, List.mem_singleton] at hu
          subst hu
          exact c4) (by
        intro z hz
        rcases List.mem_append.1 hz with hz | hz
        · exact hm z (by simp [hz])
        · rw [List.mem_singleton.1 hz]; exact hjw)
      refine h.congr (fun n => ?_)
      rw [asm_append, asm_append, asm_cons, asm_cons, asm_cons, asm_nil]
      simp only [or_false]
      constructor
      · rintro ((h | ⟨_, h, h3⟩) | h)
        · exact .inl (.inl h)
        · by_cases hn : n ≤ av y.f1
          · exact .inl (.inr ⟨hwy, h, hn⟩)
          · have h3 : n ≤ av m := h3
            exact .inr (.inl ⟨hx, by omega, by omega⟩)
        · exact .inr (.inr h)
      · rintro ((h | ⟨_, h, h3⟩) | ⟨_, h, h3⟩ | h)
        · exact .inl (.inl h)
        · exact .inl (.inr ⟨hjw, h, show n ≤ av m from by omega⟩)
        · exact .inl (.inr ⟨hjw, show av y.f0 ≤ n from by omega, show n ≤ av m from by omega⟩)
        · exact .inr h
    · rw [if_neg hj]
      have hj2 : ¬ av x.f0 ≤ av y.f1 + 1 := fun e => hj (hni.2 e)
      have h := mrgR_spec t (i ++ [y]) x ht p2 p1 (by
        rw [List.map_append, can_append]
        refine ⟨hc0, ?_, ⟨av x.f0, by simp [rsp, CanFrom]; omega⟩, ?_⟩
        · intro z hz u hu
          simp only [List.map_cons, List.map_nil, List.mem_singleton] at hu
          subst hu
          rw [List.map_append] at hz
          rcases List.mem_append.1 hz with hz | hz
          · have := c2 z hz
            simp only [rsp] at this ⊢
            omega
          · simp only [List.map_cons, List.map_nil, List.mem_singleton] at hz
            subst hz
            simp only [rsp]
            omega
        · intro u hu
          simp only [List.map_cons, List.map_nil, List.mem_singleton] at hu
          subst hu
          have := hx.num.1
          simpa [rsp] using this) (by
        intro z hz
        rcases List.mem_append.1 hz with hz | hz
        · exact hm z hz
        · rw [List.mem_singleton.1 hz]; exact hx)
      refine h.congr (fun n => ?_)
      rw [asm_append (i ++ [y]) [x], asm_cons x t, asm_cons x [], asm_nil]
      simp only [or_false, or_assoc]
theorem mergeR_spec (L : List Rg) (hL : ∀ x ∈ L, RW x) (hp : L.Pairwise (fun a b => av a.f0 ≤ av b.f0)) : ACan (ASM L) (L.foldl mrgR []) := by
  cases L with
  | nil => exact ⟨trivial, by simp, fun n => Iff.rfl⟩
  | cons x t =>
    obtain ⟨p1, p2⟩ := List.pairwise_cons.1 hp
    have hx := hL x (List.mem_cons_self ..)
    have h := mrgR_spec t [] x (fun z hz => hL z (List.mem_cons_of_mem _ hz)) p2 p1 ⟨hx.num.1, hx.2.2.2, trivial⟩ (by simp; exact hx)
    rw [List.foldl_cons, mrgR_nil]
    refine h.congr (fun n => ?_)
    rw [List.nil_append, asm_cons, asm_cons, asm_nil, or_false]
theorem aNormal_spec (l : List Rg) (hl : l.length < 2932031007402) (hb : ∀ x ∈ l, RB x) : ∃ r, Ev (fun k => addrset_Normal.f k l) r ∧ ACan (ASM l) r ∧ r.length ≤ l.length := by
  obtain ⟨s1, s2, s3⟩ := sortRanges_spec (l.filter someB)
  have hw : ∀ x ∈ sortRanges (l.filter someB), RW x := fun x hx => by
    have h1 := List.mem_filter.1 (s2.mem_iff.1 hx)
    exact (some_iff (hb x h1.1)).1 h1.2
  have hlen := List.length_filter_le someB l
  refine ⟨(sortRanges (l.filter someB)).foldl mrgR [], ?_, ?_, ?_⟩
  · unfold addrset_Normal.f addrset_kept.f
    rw [if_pos hl]
    have h := ev_aNormal0 (sortRanges (l.filter someB)) (by omega) hw _ 0 [] rfl (Nat.zero_le _) (Nat.le_refl _) (by simp)
    simpa using h
  · refine (mergeR_spec _ hw ?_).congr (fun n => ?_)
    · rw [List.pairwise_iff_getElem] at s3 ⊢
      intro i j hi hj hij
      have := s3 i j hi hj hij
      rw [ltA_iff (hw _ (List.getElem_mem hj)).1.1 (hw _ (List.getElem_mem hi)).1.1] at this
      omega
    · rw [asm_perm s2, asm_filter l hb]
  · have := foldR_len (sortRanges (l.filter someB)) []
    simp at this
    omega
def mergeA (x r : Rg) : Rg := ⟨if av x.f0 < av r.f0 then x.f0 else r.f0, if av r.f1 < av x.f1 then x.f1 else r.f1⟩
def insR (r : Rg) : List Rg → List Rg
  | [] => [r]
  | x :: t => if av x.f1 + 1 < av r.f0 then x :: insR r t else if av r.f1 + 1 < av x.f0 then r :: x :: t else insR (mergeA x r) t
theorem mergeA_RW {x r : Rg} (hx : RW x) (hr : RW r) (h1 : ¬ av x.f1 + 1 < av r.f0) (h2 : ¬ av r.f1 + 1 < av x.f0) : RW (mergeA x r) := by
  have hf : x.f0.f0 = r.f0.f0 := by
    rcases hx.num with ⟨_, _, n1 | n1⟩ <;> rcases hr.num with ⟨_, _, n2 | n2⟩
    · rw [n1.1, n2.1]
    · omega
    · omega
    · rw [n1.1, n2.1]
  have e1 := hx.2.2.1
  have e2 := hr.2.2.1
  unfold mergeA
  refine ⟨?_, ?_, ?_, ?_⟩
  · show AF (if _ then _ else _)
    split
    · exact hx.1
    · exact hr.1
  · show AF (if _ then _ else _)
    split
    · exact hx.2.1
    · exact hr.2.1
  · show (if _ then _ else _ : Ad).f0 = (if _ then _ else _ : Ad).f0
    split <;> split
    · exact e1
    · rw [hf]; exact e2
    · rw [← hf]; exact e1
    · exact e2
  · have := hx.2.2.2
    have := hr.2.2.2
    show av (if _ then _ else _) ≤ av (if _ then _ else _)
    split <;> split <;> omega
theorem insR_ins : ∀ (l : List Rg) (r : Rg), RW r → (∀ x ∈ l, RW x) → (insR r l).map rsp = ins (rsp r) (l.map rsp) ∧ ∀ z ∈ insR r l, RW z
  | [], r, hr, _ => ⟨rfl, fun z hz => by rw [List.mem_singleton.1 hz]; exact hr⟩
  | x :: t, r, hr, hl => by
    have hx := hl x (List.mem_cons_self ..)
    have ht : ∀ z ∈ t, RW z := fun z hz => hl z (List.mem_cons_of_mem _ hz)
    have x2 := hx.2.2.2
    have r2 := hr.2.2.2
    simp only [insR, List.map_cons, ins]
    show _ = (if av r.f1 + 1 < av x.f0 then _ else if av x.f1 + 1 < av r.f0 then _ else _) ∧ _
    by_cases h1 : av x.f1 + 1 < av r.f0
    · rw [if_pos h1, if_neg (by omega), if_pos h1]
      obtain ⟨e1, e2⟩ := insR_ins t r hr ht
      refine ⟨by rw [List.map_cons, e1], fun z hz => ?_⟩
      rcases List.mem_cons.1 hz with rfl | hz
      · exact hx
      · exact e2 z hz
    · rw [if_neg h1]
      by_cases h2 : av r.f1 + 1 < av x.f0
      · rw [if_pos h2, if_pos h2]
        refine ⟨rfl, fun z hz => ?_⟩
        rcases List.mem_cons.1 hz with rfl | hz
        · exact hr
        · exact hl z hz
      · rw [if_neg h2, if_neg h2, if_neg h1]
        have hm := mergeA_RW hx hr h1 h2
        obtain ⟨e1, e2⟩ := insR_ins t (mergeA x r) hm ht
        refine ⟨?_, e2⟩
        rw [e1]
        congr 1
        show (av (if _ then _ else _), av (if _ then _ else _)) = (min (av r.f0) (av x.f0), max (av r.f1) (av x.f1))
        refine Prod.ext ?_ ?_
        · show av (if _ then _ else _) = min (av r.f0) (av x.f0)
          split <;> omega
        · show av (if _ then _ else _) = max (av r.f1) (av x.f1)
          split <;> omega
theorem insR_spec {l : List Rg} {r : Rg} (hc : CanFrom 0 (l.map rsp)) (hl : ∀ x ∈ l, RW x) (hr : RW r) : ACan (fun n => (av r.f0 ≤ n ∧ n ≤ av r.f1) ∨ ASM l n) (insR r l) := by
  obtain ⟨e1, e2⟩ := insR_ins l r hr hl
  refine ⟨?_, e2, fun n => ?_⟩
  · rw [e1]; exact ins_can _ _ _ hc hr.num.1 hr.2.2.2
  · rw [asm_mem e2, e1, ins_mem _ _ 0 n hc hr.2.2.2]
    show (_ ∧ _) ∨ _ ↔ (_ ∧ _) ∨ ASM l n
    rw [asm_mem hl]
    rfl
theorem insR_len : ∀ (l : List Rg) (r : Rg), (insR r l).length ≤ l.length + 1
  | [], r => by simp [insR]
  | x :: t, r => by
    unfold insR
    split
    · have := insR_len t r; simp; omega
    · split
      · simp
      · have := insR_len t (mergeA x r); simp; omega
theorem ev_radd_done (l : List Rg) (r : Rg) (hl : l.length < 2932031007000) : ∀ (d i : Nat) (out : List Rg), l.length - i = d → i ≤ l.length → out.length ≤ i + 1 → Ev (fun k => intrusionref07_add.l0 k l out true (i : Int) r.f0.f0 r.f0.f1 r.f0.f2 r.f1.f0 r.f1.f1 r.f1.f2) (out ++ l.drop i) := by
  intro d
  induction d with
  | zero =>
    intro i out hd hi ho
    have : i = l.length := by omega
    subst this
    refine Ev.step (f := fun _ => some out) (fun k => ?_) (by simpa using Ev.now out)
    simp only [intrusionref07_add.l0]; rw [if_neg (by omega), if_pos (by trivial)]
  | succ d ih =>
    intro i out hd hi ho
    have hlt : i < l.length := by omega
    have h2 := ih (i + 1) (out ++ [l[i]]) (by omega) (by omega) (by simp; omega)
    rw [dropc l i hlt, show out ++ l[i] :: l.drop (i + 1) = out ++ [l[i]] ++ l.drop (i + 1) from by simp]
    refine Ev.step (f := fun k => intrusionref07_add.j1 k l out true (i : Int) true r.f0.f0 r.f0.f1 r.f0.f2 r.f1.f0 r.f1.f1 r.f1.f2 l[i].f0.f0 l[i].f0.f1 l[i].f0.f2 l[i].f1.f0 l[i].f1.f1 l[i].f1.f2) (fun k => ?_) (Ev.step (fun k => ?_) h2)
    · simp only [intrusionref07_add.l0]
      rw [if_pos (by omega), if_pos (by omega), if_pos (by trivial), rd_getR l i hlt]
    · simp only [intrusionref07_add.j1]
      rw [if_pos (by trivial), if_pos (by omega), wsucc i (by omega)]
theorem apart_iff {x r : Rg} (hx : RW x) (hr : RW r) : (av x.f1 < av r.f0 ∧ ¬ nearP x r) ↔ av x.f1 + 1 < av r.f0 := by
  have x2 := hx.2.2.2
  constructor
  · rintro ⟨h1, h2⟩
    have h3 := nearP_iff hx hr (by omega)
    apply Classical.byContradiction
    intro hc
    exact h2 (h3.2 (by omega))
  · intro h
    have := nearP_iff hx hr (by omega)
    exact ⟨by omega, fun e => by have := this.1 e; omega⟩
theorem ev_radd0 (l : List Rg) (hl : l.length < 2932031007000) (hL : ∀ x ∈ l, RW x) : ∀ (d i : Nat) (out : List Rg) (r : Rg), RW r → l.length - i = d → i ≤ l.length → out.length ≤ i → Ev (fun k => intrusionref07_add.l0 k l out false (i : Int) r.f0.f0 r.f0.f1 r.f0.f2 r.f1.f0 r.f1.f1 r.f1.f2) (out ++ insR r (l.drop i)) := by
  intro d
  induction d with
  | zero =>
    intro i out r hr hd hi ho
    have : i = l.length := by omega
    subst this
    refine Ev.step (f := fun _ => some (out ++ [r])) (fun k => ?_) (by simpa [insR] using Ev.now (out ++ [r]))
    simp only [intrusionref07_add.l0]; rw [if_neg (by omega), if_neg (by decide), if_pos (by omega)]
  | succ d ih =>
    intro i out r hr hd hi ho
    have hlt : i < l.length := by omega
    have hx := hL l[i] (List.getElem_mem hlt)
    rw [dropc l i hlt]
    unfold insR
    have hj2m : ¬ av l[i].f1 + 1 < av r.f0 → ¬ av r.f1 + 1 < av l[i].f0 → Ev (fun k => intrusionref07_add.j2 k l out false (i : Int) false r.f0.f0 r.f0.f1 r.f0.f2 r.f1.f0 r.f1.f1 r.f1.f2 l[i].f0.f0 l[i].f0.f1 l[i].f0.f2 l[i].f1.f0 l[i].f1.f1 l[i].f1.f2) (out ++ insR (mergeA l[i] r) (l.drop (i + 1))) := fun g1 g2 => by
      refine Ev.step (fun k => ?_) (ih (i + 1) out (mergeA l[i] r) (mergeA_RW hx hr g1 g2) (by omega) (by omega) (by omega))
      simp only [intrusionref07_add.j2]
      rw [if_neg (by decide), before_eq l[i].f0 r.f0 hx.1.1 hr.1.1, before_eq r.f1 l[i].f1 hr.2.1.1 hx.2.1.1, wsucc i (by omega)]
      simp only [Option.bind_some, decide_eq_true_eq]
      unfold mergeA
      by_cases e1 : av l[i].f0 < av r.f0
      · rw [if_pos e1]
        by_cases e2 : av r.f1 < av l[i].f1
        · rw [if_pos e2]; simp only [if_pos e1, if_pos e2]
        · rw [if_neg e2]; simp only [if_pos e1, if_neg e2]
      · rw [if_neg e1]
        by_cases e2 : av r.f1 < av l[i].f1
        · rw [if_pos e2]; simp only [if_neg e1, if_pos e2]
        · rw [if_neg e2]; simp only [if_neg e1, if_neg e2]
    have hj2 : ¬ av l[i].f1 + 1 < av r.f0 → Ev (fun k => intrusionref07_add.j2 k l out false (i : Int) (decide (av r.f1 + 1 < av l[i].f0)) r.f0.f0 r.f0.f1 r.f0.f2 r.f1.f0 r.f1.f1 r.f1.f2 l[i].f0.f0 l[i].f0.f1 l[i].f0.f2 l[i].f1.f0 l[i].f1.f1 l[i].f1.f2) (out ++ (if av r.f1 + 1 < av l[i].f0 then r :: l[i] :: l.drop (i + 1) else insR (mergeA l[i] r) (l.drop (i + 1)))) := fun g1 => by
      by_cases g2 : av r.f1 + 1 < av l[i].f0
      · rw [if_pos g2, decide_eq_true g2]
        have h3 := ev_radd_done l r hl (l.length - (i + 1)) (i + 1) (out ++ [r, l[i]]) rfl (by omega) (by simp; omega)
        rw [show out ++ r :: l[i] :: l.drop (i + 1) = out ++ [r, l[i]] ++ l.drop (i + 1) from by simp]
        refine Ev.step (fun k => ?_) h3
        simp only [intrusionref07_add.j2]
        rw [if_pos (by trivial)]
        simp only [Option.bind_some]
        rw [if_pos (by simp; omega), wsucc i (by omega)]
      · rw [if_neg g2, decide_eq_false g2]
        exact hj2m g1 g2
    have hj1 : Ev (fun k => intrusionref07_add.j1 k l out false (i : Int) (decide (av l[i].f1 + 1 < av r.f0)) r.f0.f0 r.f0.f1 r.f0.f2 r.f1.f0 r.f1.f1 r.f1.f2 l[i].f0.f0 l[i].f0.f1 l[i].f0.f2 l[i].f1.f0 l[i].f1.f1 l[i].f1.f2) (out ++ (if av l[i].f1 + 1 < av r.f0 then l[i] :: insR r (l.drop (i + 1)) else if av r.f1 + 1 < av l[i].f0 then r :: l[i] :: l.drop (i + 1) else insR (mergeA l[i] r) (l.drop (i + 1)))) := by
      by_cases g1 : av l[i].f1 + 1 < av r.f0
      · rw [if_pos g1, decide_eq_true g1]
        have h3 := ih (i + 1) (out ++ [l[i]]) r hr (by omega) (by omega) (by simp; omega)
        rw [show out ++ l[i] :: insR r (l.drop (i + 1)) = out ++ [l[i]] ++ insR r (l.drop (i + 1)) from by simp]
        refine Ev.step (fun k => ?_) h3
        simp only [intrusionref07_add.j1]
        rw [if_pos (by trivial), if_pos (by omega), wsucc i (by omega)]
      · rw [if_neg g1, decide_eq_false g1]
        refine Ev.step (fun k => ?_) (hj2 g1)
        simp only [intrusionref07_add.j1]
        rw [if_neg (by decide), before_eq r.f1 l[i].f0 hr.2.1.1 hx.1.1]
        simp only [Option.bind_some, decide_eq_true_eq]
        have ha := apart_iff hr hx
        by_cases e : av r.f1 < av l[i].f0
        · rw [if_pos e, joined_eq r l[i] hr hx]
          simp only [Option.bind_some]
          congr 1
          rw [Bool.eq_iff_iff]
          simp only [Bool.not_eq_true', decide_eq_false_iff_not, decide_eq_true_eq]
          rw [← ha]
          exact ⟨fun h => ⟨e, h⟩, fun h => h.2⟩
        · rw [if_neg e, decide_eq_false (by omega)]
    refine Ev.step (fun k => ?_) hj1
    simp only [intrusionref07_add.l0]
    rw [if_pos (by omega), if_pos (by omega), if_neg (by decide), rd_getR l i hlt, before_eq l[i].f1 r.f0 hx.2.1.1 hr.1.1]
    simp only [Option.bind_some, decide_eq_true_eq]
    have ha := apart_iff hx hr
    by_cases e : av l[i].f1 < av r.f0
    · rw [if_pos e, joined_eq l[i] r hx hr]
      simp only [Option.bind_some]
      congr 1
      rw [Bool.eq_iff_iff]
      simp only [Bool.not_eq_true', decide_eq_false_iff_not, decide_eq_true_eq]
      rw [← ha]
      exact ⟨fun h => ⟨e, h⟩, fun h => h.2⟩
    · rw [if_neg e, decide_eq_false (by omega)]
theorem radd_spec {P : Int → Prop} {l : List Rg} (h : ACan P l) (r : Rg) (hr : RW r) (hl : l.length < 2932031007000) : ∃ s, Ev (fun k => intrusionref07_add.f k l r.f0.f0 r.f0.f1 r.f0.f2 r.f1.f0 r.f1.f1 r.f1.f2) s ∧ ACan (fun n => P n ∨ (av r.f0 ≤ n ∧ n ≤ av r.f1)) s ∧ s.length ≤ l.length + 1 := by
  refine ⟨insR r l, ?_, ?_, insR_len l r⟩
  · have := ev_radd0 l hl h.2.1 l.length 0 [] r hr rfl (Nat.zero_le _) (Nat.le_refl _)
    simpa [intrusionref07_add.f] using this
  · refine (insR_spec h.1 h.2.1 hr).congr (fun n => ?_)
    rw [h.2.2 n]
    exact or_comm
theorem ev_rNormal0 (L : List Rg) (hl : L.length < 2932031007000) (hL : ∀ x ∈ L, RB x) : ∀ (d i : Nat) (out : List Rg) (P : Int → Prop), L.length - i = d → i ≤ L.length → out.length ≤ i → ACan P out → ∃ r, Ev (fun k => intrusionref07_Normal.l0 k L out (i : Int)) r ∧ ACan (fun n => P n ∨ ASM (L.drop i) n) r ∧ r.length ≤ L.length := by
  intro d
  induction d with
  | zero =>
    intro i out P hd hi ho hc
    have : i = L.length := by omega
    subst this
    refine ⟨out, Ev.step (f := fun _ => some out) (fun k => ?_) (Ev.now out), hc.congr (fun n => ?_), ho⟩
    · simp only [intrusionref07_Normal.l0]; rw [if_neg (by omega)]
    · rw [List.drop_length, asm_nil, or_false]
  | succ d ih =>
    intro i out P hd hi ho hc
    have hlt : i < L.length := by omega
    have hb := hL L[i] (List.getElem_mem hlt)
    by_cases hs : RW L[i]
    · obtain ⟨s, s1, s2, s3⟩ := radd_spec hc L[i] hs (by omega)
      obtain ⟨r, r1, r2, r3⟩ := ih (i + 1) s _ (by omega) (by omega) (by omega) s2
      refine ⟨r, ?_, r2.congr (fun n => ?_), r3⟩
      · refine Ev.step (f := fun k => (intrusionref07_add.f k out L[i].f0.f0 L[i].f0.f1 L[i].f0.f2 L[i].f1.f0 L[i].f1.f1 L[i].f1.f2).bind fun t => intrusionref07_Normal.l0 k L t ((i + 1 : Nat) : Int)) (fun k => ?_) (Ev.bind s1 r1)
        simp only [intrusionref07_Normal.l0]
        rw [if_pos (by omega), if_pos (by omega), rd_getR L i hlt, rsome_eq _ hb, (some_iff hb).2 hs, wsucc i (by omega)]
        rfl
      · rw [dropc L i hlt, asm_cons, or_assoc]
        exact or_congr_right (or_congr_left ⟨fun h => ⟨hs, h⟩, fun h => h.2⟩)
    · obtain ⟨r, r1, r2, r3⟩ := ih (i + 1) out P (by omega) (by omega) (by omega) hc
      refine ⟨r, ?_, r2.congr (fun n => ?_), r3⟩
      · refine Ev.step (fun k => ?_) r1
        simp only [intrusionref07_Normal.l0]
        rw [if_pos (by omega), if_pos (by omega), rd_getR L i hlt, rsome_eq _ hb, Bool.eq_false_iff.2 (fun h => hs ((some_iff hb).1 h)), wsucc i (by omega)]
        rfl
      · rw [dropc L i hlt, asm_cons]
        exact or_congr_right ⟨.inr, fun h => h.elim (fun h => (hs h.1).elim) id⟩
theorem ACan.none : ACan (fun _ => False) [] := ACan.nil (fun _ h => h)
theorem arNormal_spec (l : List Rg) (hl : l.length < 2932031007000) (hb : ∀ x ∈ l, RB x) : ∃ r, Ev (fun k => intrusionref07_Normal.f k l) r ∧ ACan (ASM l) r ∧ r.length ≤ l.length := by
  obtain ⟨r, r1, r2, r3⟩ := ev_rNormal0 l hl hb l.length 0 [] _ rfl (Nat.zero_le _) (Nat.le_refl _) ACan.none
  exact ⟨r, r1, r2.congr (fun n => by simp), r3⟩
theorem ev_aSame (L : List Rg) (hl : L.length < 2932031007402) : ∀ (d i : Nat), L.length - i = d → i ≤ L.length → Ev (fun k => intrusionref07_Same.l0 k L L (i : Int)) true := by
  intro d
  induction d with
  | zero =>
    intro i hd hi
    have : i = L.length := by omega
    subst this
    refine Ev.step (f := fun _ => some true) (fun k => ?_) (Ev.now true)
    simp only [intrusionref07_Same.l0]; rw [if_neg (by omega)]
  | succ d ih =>
    intro i hd hi
    have hlt : i < L.length := by omega
    refine Ev.step (fun k => ?_) (ih (i + 1) (by omega) (by omega))
    simp only [intrusionref07_Same.l0]
    rw [if_pos (by omega), if_pos (by omega), if_pos (by omega), rd_getR L i hlt, wsucc i (by omega)]
    simp
theorem aSame_ev (L : List Rg) (hl : L.length < 2932031007402) : Ev (fun k => intrusionref07_Same.f k L L) true := by
  have h := ev_aSame L hl L.length 0 rfl (Nat.zero_le _)
  refine Ev.congr (fun k => ?_) h
  unfold intrusionref07_Same.f
  rw [if_pos (by trivial)]
  rfl
end Go.Proofs.Ytcgfpffgiimgmaa.Q
end

section
namespace Go.Proofs.Ytcgfpffgiimgmaa.Q
open Go.RowKit Go.Proofs.YtcgfpffgiimgmaaW.PrintWords Go.Proofs.YtcgfpffgiimgmaaW.PrintLast Go.Proofs.YtcgfpffgiimgmaaW.PrintMore
attribute [local go_sem] max2_int min2_int max_two min_two max_three min_three max_four min_four
set_option linter.unusedVariables false
set_option linter.unusedSimpArgs false
def intrusionref07_Valid.l0 : Nat → List (S66) → Int → Option (Bool)
  | 0, _, _ => none
  | k + 1, x0, x3 => if x3 < (x0.length : Int) then (if 0 ≤ x3 then ((intrusionref07_Some.f ((rd_T66 x0 x3).f0.f0) ((rd_T66 x0 x3).f0.f1) ((rd_T66 x0 x3).f0.f2) ((rd_T66 x0 x3).f1.f0) ((rd_T66 x0 x3).f1.f1) ((rd_T66 x0 x3).f1.f2)).bind fun t640 => (if t640 = true then (if x3 > 0 then (if 0 ≤ (wrap64 (x3 - 1)) then (if (wrap64 (x3 - 1)) < (x0.length : Int) then ((intrusionref07_Before.f ((rd_T66 x0 (wrap64 (x3 - 1))).f1.f0) ((rd_T66 x0 (wrap64 (x3 - 1))).f1.f1) ((rd_T66 x0 (wrap64 (x3 - 1))).f1.f2) ((rd_T66 x0 x3).f0.f0) ((rd_T66 x0 x3).f0.f1) ((rd_T66 x0 x3).f0.f2)).bind fun t643 => (if t643 = true then ((intrusionref07_joined.f ((rd_T66 x0 (wrap64 (x3 - 1))).f0.f0) ((rd_T66 x0 (wrap64 (x3 - 1))).f0.f1) ((rd_T66 x0 (wrap64 (x3 - 1))).f0.f2) ((rd_T66 x0 (wrap64 (x3 - 1))).f1.f0) ((rd_T66 x0 (wrap64 (x3 - 1))).f1.f1) ((rd_T66 x0 (wrap64 (x3 - 1))).f1.f2) ((rd_T66 x0 x3).f0.f0) ((rd_T66 x0 x3).f0.f1) ((rd_T66 x0 x3).f0.f2) ((rd_T66 x0 x3).f1.f0) ((rd_T66 x0 x3).f1.f1) ((rd_T66 x0 x3).f1.f2)).bind fun t646 => (if t646 = true then (some false) else (intrusionref07_Valid.l0 k x0 (wrap64 (x3 + 1))))) else (some false))) else (none)) else (none)) else (intrusionref07_Valid.l0 k x0 (wrap64 (x3 + 1)))) else (some false))) else (none)) else (some true)
def intrusionref07_Valid.f (k : Nat) (l0 : List (S66)) : Option (Bool) := intrusionref07_Valid.l0 k l0 0
theorem intrusionref07_Valid.mono_l : ∀ k, (∀ y0 y1, LeO (intrusionref07_Valid.l0 k y0 y1) (intrusionref07_Valid.l0 (k + 1) y0 y1))
  | 0 => fun _ _ r h => by simp [intrusionref07_Valid.l0] at h
  | k + 1 => by
    have ih0 := intrusionref07_Valid.mono_l k
    · intro y0 y1
      unfold intrusionref07_Valid.l0
      repeat' first
      | (with_reducible exact ih0 _ _)
      | (with_reducible exact LeO.refl _)
      | (with_reducible exact LeO.none _)
      | (with_reducible refine LeO.ite ?_ ?_)
      | (with_reducible refine LeO.bind ?_ (fun _ => ?_))
      | exact ih0 _ _
      | exact LeO.none _
      | refine LeO.ite ?_ ?_
      | refine LeO.bind ?_ (fun _ => ?_)
theorem intrusionref07_Valid.mono : ∀ a0 k, LeO (intrusionref07_Valid.f k a0) (intrusionref07_Valid.f (k + 1) a0) := by
  intro a0 k
  have ih0 := intrusionref07_Valid.mono_l k
  unfold intrusionref07_Valid.f
  repeat' first
      | (with_reducible exact ih0 _ _)
      | (with_reducible exact LeO.refl _)
      | (with_reducible exact LeO.none _)
      | (with_reducible refine LeO.ite ?_ ?_)
      | (with_reducible refine LeO.bind ?_ (fun _ => ?_))
      | exact ih0 _ _
      | exact LeO.none _
      | refine LeO.ite ?_ ?_
      | refine LeO.bind ?_ (fun _ => ?_)
end Go.Proofs.Ytcgfpffgiimgmaa.Q
end

section
namespace Go.Proofs.Ytcgfpffgiimgmaa.Q
open Go.RowKit Go.Proofs.YtcgfpffgiimgmaaW.PrintWords Go.Proofs.YtcgfpffgiimgmaaW.PrintLast Go.Proofs.YtcgfpffgiimgmaaW.PrintMore
attribute [local go_sem] max2_int min2_int max_two min_two max_three min_three max_four min_four
set_option linter.unusedVariables false
set_option linter.unusedSimpArgs false
def intrusionref07_Contains.l0 : Nat → List (S66) → Int → Bool → Int → Int → Option (Bool)
  | 0, _, _, _, _, _ => none
  | k + 1, x0, x5, x648000, x648001, x648002 => if x5 < (x0.length : Int) then ((intrusionref07_Fine.f x648000 x648001 x648002).bind fun t648 => (if t648 = true then (if 0 ≤ x5 then ((intrusionref07_Some.f ((rd_T66 x0 x5).f0.f0) ((rd_T66 x0 x5).f0.f1) ((rd_T66 x0 x5).f0.f2) ((rd_T66 x0 x5).f1.f0) ((rd_T66 x0 x5).f1.f1) ((rd_T66 x0 x5).f1.f2)).bind fun t650 => (if t650 = true then (if (((rd_T66 x0 x5).f0.f0) == x648000) = true then ((intrusionref07_Before.f x648000 x648001 x648002 ((rd_T66 x0 x5).f0.f0) ((rd_T66 x0 x5).f0.f1) ((rd_T66 x0 x5).f0.f2)).bind fun t653 => (if t653 = true then (intrusionref07_Contains.l0 k x0 (wrap64 (x5 + 1)) x648000 x648001 x648002) else ((intrusionref07_Before.f ((rd_T66 x0 x5).f1.f0) ((rd_T66 x0 x5).f1.f1) ((rd_T66 x0 x5).f1.f2) x648000 x648001 x648002).bind fun t655 => (if t655 = true then (intrusionref07_Contains.l0 k x0 (wrap64 (x5 + 1)) x648000 x648001 x648002) else (some true))))) else (intrusionref07_Contains.l0 k x0 (wrap64 (x5 + 1)) x648000 x648001 x648002)) else (intrusionref07_Contains.l0 k x0 (wrap64 (x5 + 1)) x648000 x648001 x648002))) else (none)) else (intrusionref07_Contains.l0 k x0 (wrap64 (x5 + 1)) x648000 x648001 x648002))) else (some false)
def intrusionref07_Contains.f (k : Nat) (l0 : List (S66)) (a1_0 : Bool) (a1_1 : Int) (a1_2 : Int) : Option (Bool) := intrusionref07_Contains.l0 k l0 0 a1_0 a1_1 a1_2
theorem intrusionref07_Contains.mono_l : ∀ k, (∀ y0 y1 y2 y3 y4, LeO (intrusionref07_Contains.l0 k y0 y1 y2 y3 y4) (intrusionref07_Contains.l0 (k + 1) y0 y1 y2 y3 y4))
  | 0 => fun _ _ _ _ _ r h => by simp [intrusionref07_Contains.l0] at h
  | k + 1 => by
    have ih0 := intrusionref07_Contains.mono_l k
    · intro y0 y1 y2 y3 y4
      unfold intrusionref07_Contains.l0
      repeat' first
      | (with_reducible exact ih0 _ _ _ _ _)
      | (with_reducible exact LeO.refl _)
      | (with_reducible exact LeO.none _)
      | (with_reducible refine LeO.ite ?_ ?_)
      | (with_reducible refine LeO.bind ?_ (fun _ => ?_))
      | exact ih0 _ _ _ _ _
      | exact LeO.none _
      | refine LeO.ite ?_ ?_
      | refine LeO.bind ?_ (fun _ => ?_)
theorem intrusionref07_Contains.mono : ∀ a0 a1 a2 a3 k, LeO (intrusionref07_Contains.f k a0 a1 a2 a3) (intrusionref07_Contains.f (k + 1) a0 a1 a2 a3) := by
  intro a0 a1 a2 a3 k
  have ih0 := intrusionref07_Contains.mono_l k
  unfold intrusionref07_Contains.f
  repeat' first
      | (with_reducible exact ih0 _ _ _ _ _)
      | (with_reducible exact LeO.refl _)
      | (with_reducible exact LeO.none _)
      | (with_reducible refine LeO.ite ?_ ?_)
      | (with_reducible refine LeO.bind ?_ (fun _ => ?_))
      | exact ih0 _ _ _ _ _
      | exact LeO.none _
      | refine LeO.ite ?_ ?_
      | refine LeO.bind ?_ (fun _ => ?_)
end Go.Proofs.Ytcgfpffgiimgmaa.Q
end

section
set_option linter.unusedVariables false
set_option linter.unusedSimpArgs false
namespace Go.Proofs.Ytcgfpffgiimgmaa.Q
open Go.RowKit Go.Proofs.YtcgfpffgiimgmaaW.PrintWords Go.Proofs.YtcgfpffgiimgmaaW.PrintLast Go.Proofs.YtcgfpffgiimgmaaW.PrintMore Go.Proofs.Ytcgfpffgiimgmaa.Canon
def okAtR (L : List Rg) (i : Nat) : Bool := if h : i < L.length then someB L[i] && (if h0 : 0 < i then decide (av (L[i - 1]'(by omega)).f1 + 1 < av L[i].f0) else true) else true
def okAllR (L : List Rg) : Bool := (List.range' 0 L.length).all (okAtR L)
theorem okR_from (L : List Rg) (i : Nat) : (List.range' i (L.length - i)).all (okAtR L) = if i < L.length then okAtR L i && (List.range' (i + 1) (L.length - (i + 1))).all (okAtR L) else true := by
  by_cases h : i < L.length
  · rw [if_pos h, show L.length - i = (L.length - (i + 1)) + 1 from by omega, List.range'_succ, List.all_cons]
  · rw [if_neg h, show L.length - i = 0 from by omega]
    rfl
theorem ev_aValid (L : List Rg) (hl : L.length < 2932031007402) (hq : ∀ x ∈ L, RB x) : ∀ (d i : Nat), L.length - i = d → i ≤ L.length → (∀ j, j < i → okAtR L j = true) →
    Ev (fun k => addrset_Valid.l0 k L L (L.length : Int) (i : Int)) ((List.range' i (L.length - i)).all (okAtR L)) ∧ Ev (fun k => intrusionref07_Valid.l0 k L (i : Int)) ((List.range' i (L.length - i)).all (okAtR L)) := by
  intro d
  induction d with
  | zero =>
    intro i hd hi _
    have : i = L.length := by omega
    subst this
    rw [okR_from, if_neg (by omega)]
    constructor
    · refine Ev.step (f := fun _ => some true) (fun k => ?_) (Ev.now true)
      simp only [addrset_Valid.l0]; rw [if_neg (by omega)]
    · refine Ev.step (f := fun _ => some true) (fun k => ?_) (Ev.now true)
      simp only [intrusionref07_Valid.l0]; rw [if_neg (by omega)]
  | succ d ih =>
    intro i hd hi hprev
    have hlt : i < L.length := by omega
    have hx := hq L[i] (List.getElem_mem hlt)
    rw [okR_from, if_pos hlt]
    have key : okAtR L i = true → Ev (fun k => addrset_Valid.l0 k L L (L.length : Int) ((i + 1 : Nat) : Int)) ((List.range' (i + 1) (L.length - (i + 1))).all (okAtR L)) ∧ Ev (fun k => intrusionref07_Valid.l0 k L ((i + 1 : Nat) : Int)) ((List.range' (i + 1) (L.length - (i + 1))).all (okAtR L)) := fun hb => ih (i + 1) (by omega) (by omega) (fun j hj => by
      by_cases e : j = i
      · subst e; exact hb
      · exact hprev j (by omega))
    have hdef : okAtR L i = (someB L[i] && (if h0 : 0 < i then decide (av (L[i - 1]'(by omega)).f1 + 1 < av L[i].f0) else true)) := by unfold okAtR; rw [dif_pos hlt]
    by_cases c1 : someB L[i] = true
    · have hw := (some_iff hx).1 c1
      by_cases c4 : 0 < i
      · have hp := hprev (i - 1) (by omega)
        have hpb := hq (L[i - 1]'(by omega)) (List.getElem_mem _)
        have hpw : RW (L[i - 1]'(by omega)) := by
          unfold okAtR at hp
          rw [dif_pos (by omega), Bool.and_eq_true] at hp
          exact (some_iff hpb).1 hp.1
        have hi1 := wpred i c4 (by omega)
        have p2 := hpw.2.2.2
        by_cases c5 : av (L[i - 1]'(by omega)).f1 + 1 < av L[i].f0
        · have hb : okAtR L i = true := by rw [hdef, c1, dif_pos c4, decide_eq_true c5]; rfl
          obtain ⟨e1, e2⟩ := key hb
          rw [hb, Bool.true_and]
          obtain ⟨n1, n2⟩ := (apart_iff hpw hw).2 c5
          constructor
          · refine Ev.step (fun k => ?_) e1
            simp only [addrset_Valid.l0]
            rw [if_pos (by omega), if_pos (by omega), if_pos (by omega), rd_getR L i hlt, some_eq, c1]
            simp only [Option.bind_some, if_true]
            rw [if_pos (by omega), hi1, if_pos (by omega), if_pos (by omega), rd_getR L (i - 1) (by omega), cmp_f]
            simp only [Option.bind_some]
            rw [if_neg (by have := cmp_ge' hpw.2.1.1 hw.1.1; omega), near_eq _ _ hpw hw, decide_eq_false n2]
            simp only [Option.bind_some]
            rw [if_neg (by decide), wsucc i (by omega)]
          · refine Ev.step (fun k => ?_) e2
            simp only [intrusionref07_Valid.l0]
            rw [if_pos (by omega), if_pos (by omega), rd_getR L i hlt, rsome_eq _ hx, c1]
            simp only [Option.bind_some, if_true]
            rw [if_pos (by omega), hi1, if_pos (by omega), if_pos (by omega), rd_getR L (i - 1) (by omega), before_eq _ _ hpw.2.1.1 hw.1.1, decide_eq_true n1]
            simp only [Option.bind_some, if_true]
            rw [joined_eq _ _ hpw hw, decide_eq_false n2]
            simp only [Option.bind_some]
            rw [if_neg (by decide), wsucc i (by omega)]
        · have hb : okAtR L i = false := by rw [hdef, c1, dif_pos c4, decide_eq_false c5]; rfl
          rw [hb, Bool.false_and]
          have ha := apart_iff hpw hw
          constructor
          · refine Ev.step (f := fun _ => some false) (fun k => ?_) (Ev.now false)
            simp only [addrset_Valid.l0]
            rw [if_pos (by omega), if_pos (by omega), if_pos (by omega), rd_getR L i hlt, some_eq, c1]
            simp only [Option.bind_some, if_true]
            rw [if_pos (by omega), hi1, if_pos (by omega), if_pos (by omega), rd_getR L (i - 1) (by omega), cmp_f]
            simp only [Option.bind_some]
            by_cases c6 : av (L[i - 1]'(by omega)).f1 < av L[i].f0
            · have n2 : nearP (L[i - 1]'(by omega)) L[i] := Classical.byContradiction (fun hc => c5 (ha.1 ⟨c6, hc⟩))
              rw [if_neg (by have := cmp_ge' hpw.2.1.1 hw.1.1; omega), near_eq _ _ hpw hw, decide_eq_true n2]
              rfl
            · rw [if_pos (by have := cmp_ge' hpw.2.1.1 hw.1.1; omega)]
          · refine Ev.step (f := fun _ => some false) (fun k => ?_) (Ev.now false)
            simp only [intrusionref07_Valid.l0]
            rw [if_pos (by omega), if_pos (by omega), rd_getR L i hlt, rsome_eq _ hx, c1]
            simp only [Option.bind_some, if_true]
            rw [if_pos (by omega), hi1, if_pos (by omega), if_pos (by omega), rd_getR L (i - 1) (by omega), before_eq _ _ hpw.2.1.1 hw.1.1]
            simp only [Option.bind_some]
            by_cases c6 : av (L[i - 1]'(by omega)).f1 < av L[i].f0
            · have n2 : nearP (L[i - 1]'(by omega)) L[i] := Classical.byContradiction (fun hc => c5 (ha.1 ⟨c6, hc⟩))
              rw [decide_eq_true c6, joined_eq _ _ hpw hw, decide_eq_true n2]
              rfl
            · rw [decide_eq_false c6]
              rfl
      · have hb : okAtR L i = true := by rw [hdef, c1, dif_neg c4]; rfl
        obtain ⟨e1, e2⟩ := key hb
        rw [hb, Bool.true_and]
        constructor
        · refine Ev.step (fun k => ?_) e1
          simp only [addrset_Valid.l0]
          rw [if_pos (by omega), if_pos (by omega), if_pos (by omega), rd_getR L i hlt, some_eq, c1]
          simp only [Option.bind_some, if_true]
          rw [if_neg (by omega), wsucc i (by omega)]
        · refine Ev.step (fun k => ?_) e2
          simp only [intrusionref07_Valid.l0]
          rw [if_pos (by omega), if_pos (by omega), rd_getR L i hlt, rsome_eq _ hx, c1]
          simp only [Option.bind_some, if_true]
          rw [if_neg (by omega), wsucc i (by omega)]
    · have c2 : someB L[i] = false := Bool.eq_false_iff.2 c1
      have hb : okAtR L i = false := by rw [hdef, c2]; rfl
      rw [hb, Bool.false_and]
      constructor
      · refine Ev.step (f := fun _ => some false) (fun k => ?_) (Ev.now false)
        simp only [addrset_Valid.l0]
        rw [if_pos (by omega), if_pos (by omega), if_pos (by omega), rd_getR L i hlt, some_eq, c2]
        rfl
      · refine Ev.step (f := fun _ => some false) (fun k => ?_) (Ev.now false)
        simp only [intrusionref07_Valid.l0]
        rw [if_pos (by omega), if_pos (by omega), rd_getR L i hlt, rsome_eq _ hx, c2]
        rfl
theorem aValid_ev (L : List Rg) (hl : L.length < 2932031007402) (hq : ∀ x ∈ L, RB x) : Ev (fun k => addrset_Valid.f k L) (okAllR L) ∧ Ev (fun k => intrusionref07_Valid.f k L) (okAllR L) := by
  have h := ev_aValid L hl hq L.length 0 rfl (Nat.zero_le _) (fun j hj => by omega)
  exact ⟨Ev.congr (fun k => rfl) h.1, Ev.congr (fun k => rfl) h.2⟩
theorem can_at : ∀ (L : List Rg) (i : Nat) (hi : i + 1 < L.length) (lo : Int), CanFrom lo (L.map rsp) → av (L[i]'(by omega)).f1 + 1 < av L[i + 1].f0
  | x :: y :: t, 0, _, lo, c => by
    have := c.2.2.1
    simp only [rsp] at this
    show av x.f1 + 1 < av y.f0
    omega
  | x :: t, i + 1, hi, lo, c => can_at t i (by simpa using hi) _ c.2.2
  | [], i, hi, lo, c => by simp at hi
theorem ACan.ok {P : Int → Prop} {r : List Rg} (h : ACan P r) : okAllR r = true := by
  unfold okAllR
  rw [List.all_eq_true]
  intro i hi
  have hlt : i < r.length := by
    have := List.mem_range'.1 hi
    obtain ⟨j, hj, e⟩ := this
    omega
  unfold okAtR
  rw [dif_pos hlt, Bool.and_eq_true]
  have hw := h.2.1 r[i] (List.getElem_mem hlt)
  refine ⟨(some_iff hw.b).2 hw, ?_⟩
  by_cases h0 : 0 < i
  · rw [dif_pos h0, decide_eq_true_eq]
    have := can_at r (i - 1) (by omega) 0 h.1
    simpa [show i - 1 + 1 = i from by omega] using this
  · rw [dif_neg h0]
end Go.Proofs.Ytcgfpffgiimgmaa.Q
end

section
set_option linter.unusedVariables false
set_option linter.unusedSimpArgs false
namespace Go.Proofs.Ytcgfpffgiimgmaa.Q
open Go.RowKit Go.Proofs.YtcgfpffgiimgmaaW.PrintWords Go.Proofs.YtcgfpffgiimgmaaW.PrintLast Go.Proofs.YtcgfpffgiimgmaaW.PrintMore Go.Proofs.Ytcgfpffgiimgmaa.Canon
theorem rd_getP (l : List Px) (k : Nat) (hk : k < l.length) : rd_T45 l (k : Int) = l[k] := by
  simp [rd_T45, List.getD_eq_getElem?_getD, List.getElem?_eq_getElem hk]
def ipA (n : Int) : Ad := ⟨false, 0, 167772160 + n⟩
theorem ip_eq (n : Int) (h0 : 0 ≤ n) (h1 : n ≤ 1000) : intrusionlaw07_ip.f n = some (false, 0, 167772160 + n) := by
  unfold intrusionlaw07_ip.f
  rw [u64_id (by omega) (by omega)]
theorem ipA_AF (n : Int) (h0 : 0 ≤ n) (h1 : n ≤ 1000) : AF (ipA n) := by
  refine ⟨⟨?_, ?_, ?_, ?_⟩, .inr ⟨?_, ?_⟩⟩ <;> simp [ipA] <;> omega
theorem ipR_RW (a b : Int) (h0 : 0 ≤ a) (h1 : b ≤ 1000) (h : a ≤ b) : RW ⟨ipA a, ipA b⟩ := ⟨ipA_AF a h0 (by omega), ipA_AF b (by omega) h1, rfl, by show av (ipA a) ≤ av (ipA b); unfold av ipA; simp; omega⟩
theorem one_can {r : Rg} (h : RW r) : ACan (ASM [r]) [r] := ACan.self ⟨h.num.1, h.2.2.2, trivial⟩ (fun x hx => by rw [List.mem_singleton.1 hx]; exact h)
theorem aw_normal1 : Ev (fun k => addrset_Normal.f k [⟨ipA 1, ipA 4⟩]) [⟨ipA 1, ipA 4⟩] := by
  have hw := ipR_RW 1 4 (by omega) (by omega) (by omega)
  obtain ⟨r, r1, r2, _⟩ := aNormal_spec [⟨ipA 1, ipA 4⟩] (by simp) (fun x hx => by rw [List.mem_singleton.1 hx]; exact hw.b)
  rw [r2.uniq (one_can hw)] at r1
  exact r1
theorem aw_normal2 : Ev (fun k => addrset_Normal.f k [⟨ipA 2, ipA 3⟩, ⟨ipA 1, ipA 1⟩]) [⟨ipA 1, ipA 3⟩] := by
  have h1 := ipR_RW 2 3 (by omega) (by omega) (by omega)
  have h2 := ipR_RW 1 1 (by omega) (by omega) (by omega)
  have h3 := ipR_RW 1 3 (by omega) (by omega) (by omega)
  obtain ⟨r, r1, r2, _⟩ := aNormal_spec [⟨ipA 2, ipA 3⟩, ⟨ipA 1, ipA 1⟩] (by simp) (fun x hx => by
    rcases List.mem_cons.1 hx with rfl | hx
    · exact h1.b
    · rw [List.mem_singleton.1 hx]; exact h2.b)
  have e : ACan (ASM [⟨ipA 2, ipA 3⟩, ⟨ipA 1, ipA 1⟩]) [⟨ipA 1, ipA 3⟩] := (one_can h3).congr (fun n => by
    rw [asm_cons, asm_cons, asm_cons, asm_nil]
    have v : ∀ m : Int, av (ipA m) = 167772160 + m := fun m => by unfold av ipA; simp
    simp only [h1, h2, h3, true_and, or_false, v]
    omega)
  rw [r2.uniq e] at r1
  exact r1
def awP : List Px := [⟨ipA 1, 32⟩, ⟨ipA 2, 31⟩, ⟨ipA 4, 32⟩]
theorem aw_all : pAll 60 [⟨ipA 1, ipA 4⟩] [] = some (some awP) := by kernel_rfl
theorem aw_pref : Ev (fun k => addrset_Prefixes.f k [⟨ipA 1, ipA 4⟩]) awP := by
  unfold addrset_Prefixes.f
  refine Ev.bind (f := fun k x => (pAll k x []).bind fun o => some (o.getD [])) aw_normal1 ?_
  refine Ev.bind (f := fun _ o => some (o.getD [])) (Ev.of (fun k => pAll_mono k _ _) aw_all) (Ev.now _)
theorem aw_notvalid : okAllR [⟨ipA 2, ipA 3⟩, ⟨ipA 1, ipA 1⟩] = false := by decide +kernel
theorem aawake_ev : Ev (fun k => intrusionlaw07_awake.f k) true := by
  unfold intrusionlaw07_awake.f
  rw [ip_eq 1 (by omega) (by omega), ip_eq 2 (by omega) (by omega), ip_eq 3 (by omega) (by omega), ip_eq 4 (by omega) (by omega)]
  simp only [Option.bind_some]
  refine Ev.bind aw_pref (Ev.bind aw_normal2 ?_)
  refine Ev.bind (f := fun k t => _) (aSame_ev [⟨ipA 1, ipA 3⟩] (by simp)) ?_
  simp only [if_true]
  refine Ev.bind (aValid_ev [⟨ipA 2, ipA 3⟩, ⟨ipA 1, ipA 1⟩] (by simp) (fun x hx => by
    rcases List.mem_cons.1 hx with rfl | hx
    · exact (ipR_RW 2 3 (by omega) (by omega) (by omega)).b
    · rw [List.mem_singleton.1 hx]; exact (ipR_RW 1 1 (by omega) (by omega) (by omega)).b)).1 ?_
  rw [aw_notvalid]
  exact Ev.now true
end Go.Proofs.Ytcgfpffgiimgmaa.Q
end

section
set_option linter.unusedVariables false
set_option linter.unusedSimpArgs false
namespace Go.Proofs.Ytcgfpffgiimgmaa.Q
open Go.RowKit Go.Proofs.YtcgfpffgiimgmaaW.PrintWords Go.Proofs.YtcgfpffgiimgmaaW.PrintLast Go.Proofs.YtcgfpffgiimgmaaW.PrintMore
def grow_Range.f (a1 : Int) : Option (List S66) := if 0 ≤ a1 ∧ a1 ≤ 2932031007402 then some [] else none
end Go.Proofs.Ytcgfpffgiimgmaa.Q
end

section
namespace Go.Proofs.Ytcgfpffgiimgmaa.Q
open Go.RowKit Go.Proofs.YtcgfpffgiimgmaaW.PrintWords Go.Proofs.YtcgfpffgiimgmaaW.PrintLast Go.Proofs.YtcgfpffgiimgmaaW.PrintMore
attribute [local go_sem] max2_int min2_int max_two min_two max_three min_three max_four min_four
set_option linter.unusedVariables false
set_option linter.unusedSimpArgs false
mutual
def slices_Concat_Range.l0 : Nat → List (List (S66)) → Int → List (List (S66)) → Int → Int → Option ((List (S66)))
  | 0, _, _, _, _, _ => none
  | k + 1, x0, x3, x9, x10, x11 => if x11 < x10 then (if 0 ≤ x11 then (if x11 < (x9.length : Int) then (if (wrap64 (x3 + ((rd_L7 x9 x11).length : Int))) < 0 then (none) else (slices_Concat_Range.l0 k x0 (wrap64 (x3 + ((rd_L7 x9 x11).length : Int))) x9 x10 (wrap64 (x11 + 1)))) else (none)) else (none)) else ((grow_Range.f x3).bind fun t922 => (slices_Concat_Range.l1 k t922 x0 (x0.length : Int) 0))
def slices_Concat_Range.l1 : Nat → List (S66) → List (List (S66)) → Int → Int → Option ((List (S66)))
  | 0, _, _, _, _ => none
  | k + 1, x6, x25, x26, x27 => if x27 < x26 then (if 0 ≤ x27 then (if x27 < (x25.length : Int) then (if x6.length + (rd_L7 x25 x27).length < 2932031007402 then (slices_Concat_Range.l1 k (x6 ++ (rd_L7 x25 x27)) x25 x26 (wrap64 (x27 + 1))) else (none)) else (none)) else (none)) else (some x6)
end
def slices_Concat_Range.f (k : Nat) (l0 : List (List (S66))) : Option ((List (S66))) := slices_Concat_Range.l0 k l0 0 l0 (l0.length : Int) 0
theorem slices_Concat_Range.mono_l : ∀ k, (∀ y0 y1 y2 y3 y4, LeO (slices_Concat_Range.l0 k y0 y1 y2 y3 y4) (slices_Concat_Range.l0 (k + 1) y0 y1 y2 y3 y4)) ∧ (∀ y0 y1 y2 y3, LeO (slices_Concat_Range.l1 k y0 y1 y2 y3) (slices_Concat_Range.l1 (k + 1) y0 y1 y2 y3))
  | 0 => ⟨fun _ _ _ _ _ r h => by simp [slices_Concat_Range.l0] at h, fun _ _ _ _ r h => by simp [slices_Concat_Range.l1] at h⟩
  | k + 1 => by
    obtain ⟨ih0, ih1⟩ := slices_Concat_Range.mono_l k
    refine ⟨?_, ?_⟩
    · intro y0 y1 y2 y3 y4
      unfold slices_Concat_Range.l0
      repeat' first
      | (with_reducible exact ih0 _ _ _ _ _)
      | (with_reducible exact ih1 _ _ _ _)
      | (with_reducible exact LeO.refl _)
      | (with_reducible exact LeO.none _)
      | (with_reducible refine LeO.ite ?_ ?_)
      | (with_reducible refine LeO.bind ?_ (fun _ => ?_))
      | exact ih0 _ _ _ _ _
      | exact ih1 _ _ _ _
      | exact LeO.none _
      | refine LeO.ite ?_ ?_
      | refine LeO.bind ?_ (fun _ => ?_)
    · intro y0 y1 y2 y3
      unfold slices_Concat_Range.l1
      repeat' first
      | (with_reducible exact ih0 _ _ _ _ _)
      | (with_reducible exact ih1 _ _ _ _)
      | (with_reducible exact LeO.refl _)
      | (with_reducible exact LeO.none _)
      | (with_reducible refine LeO.ite ?_ ?_)
      | (with_reducible refine LeO.bind ?_ (fun _ => ?_))
      | exact ih0 _ _ _ _ _
      | exact ih1 _ _ _ _
      | exact LeO.none _
      | refine LeO.ite ?_ ?_
      | refine LeO.bind ?_ (fun _ => ?_)
theorem slices_Concat_Range.mono : ∀ a0 k, LeO (slices_Concat_Range.f k a0) (slices_Concat_Range.f (k + 1) a0) := by
  intro a0 k
  obtain ⟨ih0, ih1⟩ := slices_Concat_Range.mono_l k
  unfold slices_Concat_Range.f
  repeat' first
      | (with_reducible exact ih0 _ _ _ _ _)
      | (with_reducible exact ih1 _ _ _ _)
      | (with_reducible exact LeO.refl _)
      | (with_reducible exact LeO.none _)
      | (with_reducible refine LeO.ite ?_ ?_)
      | (with_reducible refine LeO.bind ?_ (fun _ => ?_))
      | exact ih0 _ _ _ _ _
      | exact ih1 _ _ _ _
      | exact LeO.none _
      | refine LeO.ite ?_ ?_
      | refine LeO.bind ?_ (fun _ => ?_)
end Go.Proofs.Ytcgfpffgiimgmaa.Q
end

section
namespace Go.Proofs.Ytcgfpffgiimgmaa.Q
open Go.RowKit Go.Proofs.YtcgfpffgiimgmaaW.PrintWords Go.Proofs.YtcgfpffgiimgmaaW.PrintLast Go.Proofs.YtcgfpffgiimgmaaW.PrintMore
attribute [local go_sem] max2_int min2_int max_two min_two max_three min_three max_four min_four
set_option linter.unusedVariables false
set_option linter.unusedSimpArgs false
def addrset_Union.f (k : Nat) (l0 : List (S66)) (l1 : List (S66)) : Option ((List (S66))) := (slices_Concat_Range.f k (([l0, l1] : List (List (S66))))).bind fun t932 => ((addrset_Normal.f k t932).bind fun t935 => (some t935))
theorem addrset_Union.mono : ∀ a0 a1 k, LeO (addrset_Union.f k a0 a1) (addrset_Union.f (k + 1) a0 a1) := by
  intro a0 a1 k
  unfold addrset_Union.f
  repeat' first
      | (with_reducible exact addrset_Normal.mono _ _)
      | (with_reducible exact slices_Concat_Range.mono _ _)
      | (with_reducible exact LeO.refl _)
      | (with_reducible exact LeO.none _)
      | (with_reducible refine LeO.ite ?_ ?_)
      | (with_reducible refine LeO.bind ?_ (fun _ => ?_))
      | exact addrset_Normal.mono _ _
      | exact slices_Concat_Range.mono _ _
      | exact LeO.none _
      | refine LeO.ite ?_ ?_
      | refine LeO.bind ?_ (fun _ => ?_)
end Go.Proofs.Ytcgfpffgiimgmaa.Q
end

section
namespace Go.Proofs.Ytcgfpffgiimgmaa.Q
open Go.RowKit Go.Proofs.YtcgfpffgiimgmaaW.PrintWords Go.Proofs.YtcgfpffgiimgmaaW.PrintLast Go.Proofs.YtcgfpffgiimgmaaW.PrintMore
attribute [local go_sem] max2_int min2_int max_two min_two max_three min_three max_four min_four
set_option linter.unusedVariables false
set_option linter.unusedSimpArgs false
def intrusionref07_Union.f (k : Nat) (l0 : List (S66)) (l1 : List (S66)) : Option ((List (S66))) := if ([] : List (S66)).length + l0.length < 2932031007402 then ((some (([] : List (S66)) ++ l0 : List (S66))).bind fun y938 => (if y938.length + l1.length < 2932031007402 then ((intrusionref07_Normal.f k (y938 ++ l1)).bind fun t944 => (some t944)) else (none))) else (none)
theorem intrusionref07_Union.mono : ∀ a0 a1 k, LeO (intrusionref07_Union.f k a0 a1) (intrusionref07_Union.f (k + 1) a0 a1) := by
  intro a0 a1 k
  unfold intrusionref07_Union.f
  repeat' first
      | (with_reducible exact intrusionref07_Normal.mono _ _)
      | (with_reducible exact LeO.refl _)
      | (with_reducible exact LeO.none _)
      | (with_reducible refine LeO.ite ?_ ?_)
      | (with_reducible refine LeO.bind ?_ (fun _ => ?_))
      | exact intrusionref07_Normal.mono _ _
      | exact LeO.none _
      | refine LeO.ite ?_ ?_
      | refine LeO.bind ?_ (fun _ => ?_)
end Go.Proofs.Ytcgfpffgiimgmaa.Q
end

section
namespace Go.Proofs.Ytcgfpffgiimgmaa.Q
open Go.RowKit Go.Proofs.YtcgfpffgiimgmaaW.PrintWords Go.Proofs.YtcgfpffgiimgmaaW.PrintLast Go.Proofs.YtcgfpffgiimgmaaW.PrintMore
attribute [local go_sem] max2_int min2_int max_two min_two max_three min_three max_four min_four
set_option linter.unusedVariables false
set_option linter.unusedSimpArgs false
mutual
def intrusionref07_Intersect.l0 : Nat → List (S66) → List (S66) → List (S66) → Int → Option ((List (S66)))
  | 0, _, _, _, _ => none
  | k + 1, x0, x1, x5, x6 => if x6 < (x0.length : Int) then (intrusionref07_Intersect.l1 k x0 x1 x5 x6 0) else (some x5)
def intrusionref07_Intersect.l1 : Nat → List (S66) → List (S66) → List (S66) → Int → Int → Option ((List (S66)))
  | 0, _, _, _, _, _ => none
  | k + 1, x0, x1, x5, x6, x7 => if x7 < (x1.length : Int) then (if 0 ≤ x6 then (if x6 < (x0.length : Int) then (if 0 ≤ x7 then ((intrusionref07_Some.f ((rd_T66 x0 x6).f0.f0) ((rd_T66 x0 x6).f0.f1) ((rd_T66 x0 x6).f0.f2) ((rd_T66 x0 x6).f1.f0) ((rd_T66 x0 x6).f1.f1) ((rd_T66 x0 x6).f1.f2)).bind fun t844 => (if t844 = true then ((intrusionref07_Some.f ((rd_T66 x1 x7).f0.f0) ((rd_T66 x1 x7).f0.f1) ((rd_T66 x1 x7).f0.f2) ((rd_T66 x1 x7).f1.f0) ((rd_T66 x1 x7).f1.f1) ((rd_T66 x1 x7).f1.f2)).bind fun t845 => (if t845 = true then (intrusionref07_Intersect.j2 k x0 x1 x5 x6 x7 (((rd_T66 x0 x6).f0.f0) != ((rd_T66 x1 x7).f0.f0)) ((rd_T66 x0 x6).f0.f0) ((rd_T66 x0 x6).f0.f1) ((rd_T66 x0 x6).f0.f2) ((rd_T66 x0 x6).f1.f0) ((rd_T66 x0 x6).f1.f1) ((rd_T66 x0 x6).f1.f2) ((rd_T66 x1 x7).f0.f0) ((rd_T66 x1 x7).f0.f1) ((rd_T66 x1 x7).f0.f2) ((rd_T66 x1 x7).f1.f0) ((rd_T66 x1 x7).f1.f1) ((rd_T66 x1 x7).f1.f2)) else (intrusionref07_Intersect.j2 k x0 x1 x5 x6 x7 true ((rd_T66 x0 x6).f0.f0) ((rd_T66 x0 x6).f0.f1) ((rd_T66 x0 x6).f0.f2) ((rd_T66 x0 x6).f1.f0) ((rd_T66 x0 x6).f1.f1) ((rd_T66 x0 x6).f1.f2) ((rd_T66 x1 x7).f0.f0) ((rd_T66 x1 x7).f0.f1) ((rd_T66 x1 x7).f0.f2) ((rd_T66 x1 x7).f1.f0) ((rd_T66 x1 x7).f1.f1) ((rd_T66 x1 x7).f1.f2)))) else (intrusionref07_Intersect.j2 k x0 x1 x5 x6 x7 true ((rd_T66 x0 x6).f0.f0) ((rd_T66 x0 x6).f0.f1) ((rd_T66 x0 x6).f0.f2) ((rd_T66 x0 x6).f1.f0) ((rd_T66 x0 x6).f1.f1) ((rd_T66 x0 x6).f1.f2) ((rd_T66 x1 x7).f0.f0) ((rd_T66 x1 x7).f0.f1) ((rd_T66 x1 x7).f0.f2) ((rd_T66 x1 x7).f1.f0) ((rd_T66 x1 x7).f1.f1) ((rd_T66 x1 x7).f1.f2)))) else (none)) else (none)) else (none)) else (intrusionref07_Intersect.l0 k x0 x1 x5 (wrap64 (x6 + 1)))
def intrusionref07_Intersect.j2 : Nat → List (S66) → List (S66) → List (S66) → Int → Int → Bool → Bool → Int → Int → Bool → Int → Int → Bool → Int → Int → Bool → Int → Int → Option ((List (S66)))
  | 0, _, _, _, _, _, _, _, _, _, _, _, _, _, _, _, _, _, _ => none
  | k + 1, x0, x1, x5, x6, x7, x46, x843000, x843001, x843002, x843003, x843004, x843005, x844000, x844001, x844002, x844003, x844004, x844005 => if x46 = true then (intrusionref07_Intersect.l1 k x0 x1 x5 x6 (wrap64 (x7 + 1))) else ((intrusionref07_Before.f x843000 x843001 x843002 x844000 x844001 x844002).bind fun t846 => (if t846 = true then (intrusionref07_Intersect.j3 k x0 x1 x5 x6 x7 x844000 x844001 x844002 x843003 x843004 x843005 x844000 x844001 x844002 x844003 x844004 x844005) else (intrusionref07_Intersect.j3 k x0 x1 x5 x6 x7 x843000 x843001 x843002 x843003 x843004 x843005 x844000 x844001 x844002 x844003 x844004 x844005)))
def intrusionref07_Intersect.j3 : Nat → List (S66) → List (S66) → List (S66) → Int → Int → Bool → Int → Int → Bool → Int → Int → Bool → Int → Int → Bool → Int → Int → Option ((List (S66)))
  | 0, _, _, _, _, _, _, _, _, _, _, _, _, _, _, _, _, _ => none
  | k + 1, x0, x1, x5, x6, x7, x843000, x843001, x843002, x843003, x843004, x843005, x844000, x844001, x844002, x844003, x844004, x844005 => (intrusionref07_Before.f x844003 x844004 x844005 x843003 x843004 x843005).bind fun t847 => (if t847 = true then (intrusionref07_Intersect.j4 k x0 x1 x5 x6 x7 x843000 x843001 x843002 x844003 x844004 x844005) else (intrusionref07_Intersect.j4 k x0 x1 x5 x6 x7 x843000 x843001 x843002 x843003 x843004 x843005))
def intrusionref07_Intersect.j4 : Nat → List (S66) → List (S66) → List (S66) → Int → Int → Bool → Int → Int → Bool → Int → Int → Option ((List (S66)))
  | 0, _, _, _, _, _, _, _, _, _, _, _ => none
  | k + 1, x0, x1, x5, x6, x7, x843000, x843001, x843002, x843003, x843004, x843005 => (intrusionref07_Some.f x843000 x843001 x843002 x843003 x843004 x843005).bind fun t848 => (if t848 = true then ((intrusionref07_add.f k x5 x843000 x843001 x843002 x843003 x843004 x843005).bind fun t849 => (intrusionref07_Intersect.l1 k x0 x1 t849 x6 (wrap64 (x7 + 1)))) else (intrusionref07_Intersect.l1 k x0 x1 x5 x6 (wrap64 (x7 + 1))))
end
def intrusionref07_Intersect.f (k : Nat) (l0 : List (S66)) (l1 : List (S66)) : Option ((List (S66))) := intrusionref07_Intersect.l0 k l0 l1 ([] : List (S66)) 0
theorem intrusionref07_Intersect.mono_l : ∀ k, (∀ y0 y1 y2 y3, LeO (intrusionref07_Intersect.l0 k y0 y1 y2 y3) (intrusionref07_Intersect.l0 (k + 1) y0 y1 y2 y3)) ∧ (∀ y0 y1 y2 y3 y4, LeO (intrusionref07_Intersect.l1 k y0 y1 y2 y3 y4) (intrusionref07_Intersect.l1 (k + 1) y0 y1 y2 y3 y4)) ∧ (∀ y0 y1 y2 y3 y4 y5 y6 y7 y8 y9 y10 y11 y12 y13 y14 y15 y16 y17, LeO (intrusionref07_Intersect.j2 k y0 y1 y2 y3 y4 y5 y6 y7 y8 y9 y10 y11 y12 y13 y14 y15 y16 y17) (intrusionref07_Intersect.j2 (k + 1) y0 y1 y2 y3 y4 y5 y6 y7 y8 y9 y10 y11 y12 y13 y14 y15 y16 y17)) ∧ (∀ y0 y1 y2 y3 y4 y5 y6 y7 y8 y9 y10 y11 y12 y13 y14 y15 y16, LeO (intrusionref07_Intersect.j3 k y0 y1 y2 y3 y4 y5 y6 y7 y8 y9 y10 y11 y12 y13 y14 y15 y16) (intrusionref07_Intersect.j3 (k + 1) y0 y1 y2 y3 y4 y5 y6 y7 y8 y9 y10 y11 y12 y13 y14 y15 y16)) ∧ (∀ y0 y1 y2 y3 y4 y5 y6 y7 y8 y9 y10, LeO (intrusionref07_Intersect.j4 k y0 y1 y2 y3 y4 y5 y6 y7 y8 y9 y10) (intrusionref07_Intersect.j4 (k + 1) y0 y1 y2 y3 y4 y5 y6 y7 y8 y9 y10))
  | 0 => ⟨fun _ _ _ _ r h => by simp [intrusionref07_Intersect.l0] at h, fun _ _ _ _ _ r h => by simp [intrusionref07_Intersect.l1] at h, fun _ _ _ _ _ _ _ _ _ _ _ _ _ _ _ _ _ _ r h => by simp [intrusionref07_Intersect.j2] at h, fun _ _ _ _ _ _ _ _ _ _ _ _ _ _ _ _ _ r h => by simp [intrusionref07_Intersect.j3] at h, fun _ _ _ _ _ _ _ _ _ _ _ r h => by simp [intrusionref07_Intersect.j4] at h⟩
  | k + 1 => by
    obtain ⟨ih0, ih1, ih2, ih3, ih4⟩ := intrusionref07_Intersect.mono_l k
    refine ⟨?_, ?_, ?_, ?_, ?_⟩
    · intro y0 y1 y2 y3
      unfold intrusionref07_Intersect.l0
      repeat' first
      | (with_reducible exact ih0 _ _ _ _)
      | (with_reducible exact ih1 _ _ _ _ _)
      | (with_reducible exact ih2 _ _ _ _ _ _ _ _ _ _ _ _ _ _ _ _ _ _)
      | (with_reducible exact ih3 _ _ _ _ _ _ _ _ _ _ _ _ _ _ _ _ _)
      | (with_reducible exact ih4 _ _ _ _ _ _ _ _ _ _ _)
      | (with_reducible exact intrusionref07_add.mono _ _ _ _ _ _ _ _)
      | (with_reducible exact LeO.refl _)
      | (with_reducible exact LeO.none _)
      | (with_reducible refine LeO.ite ?_ ?_)
      | (with_reducible refine LeO.bind ?_ (fun _ => ?_))
      | exact ih0 _ _ _ _
      | exact ih1 _ _ _ _ _
      | exact ih2 _ _ _ _ _ _ _ _ _ _ _ _ _ _ _ _ _ _
      | exact ih3 _ _ _ _ _ _ _ _ _ _ _ _ _ _ _ _ _
      | exact ih4 _ _ _ _ _ _ _ _ _ _ _
      | exact intrusionref07_add.mono _ _ _ _ _ _ _ _
      | exact LeO.none _
      | refine LeO.ite ?_ ?_
      | refine LeO.bind ?_ (fun _ => ?_)
    · intro y0 y1 y2 y3 y4
      unfold intrusionref07_Intersect.l1
      repeat' first
      | (with_reducible exact ih0 _ _ _ _)
      | (with_reducible exact ih1 _ _ _ _ _)
      | (with_reducible exact ih2 _ _ _ _ _ _ _ _ _ _ _ _ _ _ _ _ _ _)
      | (with_reducible exact ih3 _ _ _ _ _ _ _ _ _ _ _ _ _ _ _ _ _)
      | (with_reducible exact ih4 _ _ _ _ _ _ _ _ _ _ _)
      | (with_reducible exact intrusionref07_add.mono _ _ _ _ _ _ _ _)
      | (with_reducible exact LeO.refl _)
      | (with_reducible exact LeO.none _)
      | (with_reducible refine LeO.ite ?_ ?_)
      | (with_reducible refine LeO.bind ?_ (fun _ => ?_))
      | exact ih0 _ _ _ _
      | exact ih1 _ _ _ _ _
      | exact ih2 _ _ _ _ _ _ _ _ _ _ _ _ _ _ _ _ _ _
      | exact ih3 _ _ _ _ _ _ _ _ _ _ _ _ _ _ _ _ _
      | exact ih4 _ _ _ _ _ _ _ _ _ _ _
      | exact intrusionref07_add.mono _ _ _ _ _ _ _ _
      | exact LeO.none _
      | refine LeO.ite ?_ ?_
      | refine LeO.bind ?_ (fun _ => ?_)
    · intro y0 y1 y2 y3 y4 y5 y6 y7 y8 y9 y10 y11 y12 y13 y14 y15 y16 y17
      unfold intrusionref07_Intersect.j2
      repeat' first
      | (with_reducible exact ih0 _ _ _ _)
      | (with_reducible exact ih1 _ _ _ _ _)
      | (with_reducible exact ih2 _ _ _ _ _ _ _ _ _ _ _ _ _ _ _ _ _ _)
      | (with_reducible exact ih3 _ _ _ _ _ _ _ _ _ _ _ _ _ _ _ _ _)
      | (with_reducible exact ih4 _ _ _ _ _ _ _ _ _ _ _)
      | (with_reducible exact intrusionref07_add.mono _ _ _ _ _ _ _ _)
      | (with_reducible exact LeO.refl _)
      | (with_reducible exact LeO.none _)
      | (with_reducible refine LeO.ite ?_ ?_)
      | (with_reducible refine LeO.bind ?_ (fun _ => ?_))
      | exact ih0 _ _ _ _
      | exact ih1 _ _ _ _ _
      | exact ih2 _ _ _ _ _ _ _ _ _ _ _ _ _ _ _ _ _ _
      | exact ih3 _ _ _ _ _ _ _ _ _ _ _ _ _ _ _ _ _
      | exact ih4 _ _ _ _ _ _ _ _ _ _ _
      | exact intrusionref07_add.mono _ _ _ _ _ _ _ _
      | exact LeO.none _
      | refine LeO.ite ?_ ?_
      | refine LeO.bind ?_ (fun _ => ?_)
    · intro y0 y1 y2 y3 y4 y5 y6 y7 y8 y9 y10 y11 y12 y13 y14 y15 y16
      unfold intrusionref07_Intersect.j3
      repeat' first
      | (with_reducible exact ih0 _ _ _ _)
      | (with_reducible exact ih1 _ _ _ _ _)
      | (with_reducible exact ih2 _ _ _ _ _ _ _ _ _ _ _ _ _ _ _ _ _ _)
      | (with_reducible exact ih3 _ _ _ _ _ _ _ _ _ _ _ _ _ _ _ _ _)
      | (with_reducible exact ih4 _ _ _ _ _ _ _ _ _ _ _)
      | (with_reducible exact intrusionref07_add.mono _ _ _ _ _ _ _ _)
      | (with_reducible exact LeO.refl _)
      | (with_reducible exact LeO.none _)
      | (with_reducible refine LeO.ite ?_ ?_)
      | (with_reducible refine LeO.bind ?_ (fun _ => ?_))
      | exact ih0 _ _ _ _
      | exact ih1 _ _ _ _ _
      | exact ih2 _ _ _ _ _ _ _ _ _ _ _ _ _ _ _ _ _ _
      | exact ih3 _ _ _ _ _ _ _ _ _ _ _ _ _ _ _ _ _
      | exact ih4 _ _ _ _ _ _ _ _ _ _ _
      | exact intrusionref07_add.mono _ _ _ _ _ _ _ _
      | exact LeO.none _
      | refine LeO.ite ?_ ?_
      | refine LeO.bind ?_ (fun _ => ?_)
    · intro y0 y1 y2 y3 y4 y5 y6 y7 y8 y9 y10
      unfold intrusionref07_Intersect.j4
      repeat' first
      | (with_reducible exact ih0 _ _ _ _)
      | (with_reducible exact ih1 _ _ _ _ _)
      | (with_reducible exact ih2 _ _ _ _ _ _ _ _ _ _ _ _ _ _ _ _ _ _)
      | (with_reducible exact ih3 _ _ _ _ _ _ _ _ _ _ _ _ _ _ _ _ _)
      | (with_reducible exact ih4 _ _ _ _ _ _ _ _ _ _ _)
      | (with_reducible exact intrusionref07_add.mono _ _ _ _ _ _ _ _)
      | (with_reducible exact LeO.refl _)
      | (with_reducible exact LeO.none _)
      | (with_reducible refine LeO.ite ?_ ?_)
      | (with_reducible refine LeO.bind ?_ (fun _ => ?_))
      | exact ih0 _ _ _ _
      | exact ih1 _ _ _ _ _
      | exact ih2 _ _ _ _ _ _ _ _ _ _ _ _ _ _ _ _ _ _
      | exact ih3 _ _ _ _ _ _ _ _ _ _ _ _ _ _ _ _ _
      | exact ih4 _ _ _ _ _ _ _ _ _ _ _
      | exact intrusionref07_add.mono _ _ _ _ _ _ _ _
      | exact LeO.none _
      | refine LeO.ite ?_ ?_
      | refine LeO.bind ?_ (fun _ => ?_)
theorem intrusionref07_Intersect.mono : ∀ a0 a1 k, LeO (intrusionref07_Intersect.f k a0 a1) (intrusionref07_Intersect.f (k + 1) a0 a1) := by
  intro a0 a1 k
  obtain ⟨ih0, ih1, ih2, ih3, ih4⟩ := intrusionref07_Intersect.mono_l k
  unfold intrusionref07_Intersect.f
  repeat' first
      | (with_reducible exact ih0 _ _ _ _)
      | (with_reducible exact ih1 _ _ _ _ _)
      | (with_reducible exact ih2 _ _ _ _ _ _ _ _ _ _ _ _ _ _ _ _ _ _)
      | (with_reducible exact ih3 _ _ _ _ _ _ _ _ _ _ _ _ _ _ _ _ _)
      | (with_reducible exact ih4 _ _ _ _ _ _ _ _ _ _ _)
      | (with_reducible exact intrusionref07_add.mono _ _ _ _ _ _ _ _)
      | (with_reducible exact LeO.refl _)
      | (with_reducible exact LeO.none _)
      | (with_reducible refine LeO.ite ?_ ?_)
      | (with_reducible refine LeO.bind ?_ (fun _ => ?_))
      | exact ih0 _ _ _ _
      | exact ih1 _ _ _ _ _
      | exact ih2 _ _ _ _ _ _ _ _ _ _ _ _ _ _ _ _ _ _
      | exact ih3 _ _ _ _ _ _ _ _ _ _ _ _ _ _ _ _ _
      | exact ih4 _ _ _ _ _ _ _ _ _ _ _
      | exact intrusionref07_add.mono _ _ _ _ _ _ _ _
      | exact LeO.none _
      | refine LeO.ite ?_ ?_
      | refine LeO.bind ?_ (fun _ => ?_)
end Go.Proofs.Ytcgfpffgiimgmaa.Q
end

section
namespace Go.Proofs.Ytcgfpffgiimgmaa.Q
open Go.RowKit Go.Proofs.YtcgfpffgiimgmaaW.PrintWords Go.Proofs.YtcgfpffgiimgmaaW.PrintLast Go.Proofs.YtcgfpffgiimgmaaW.PrintMore
attribute [local go_sem] max2_int min2_int max_two min_two max_three min_three max_four min_four
set_option linter.unusedVariables false
set_option linter.unusedSimpArgs false
mutual
def addrset_without.j0 : Nat → Bool → Bool → Int → Int → Bool → Int → Int → Bool → Int → Int → Bool → Int → Int → Option ((List (S66)))
  | 0, _, _, _, _, _, _, _, _, _, _, _, _, _ => none
  | k + 1, x32, x779000, x779001, x779002, x779003, x779004, x779005, x780000, x780001, x780002, x780003, x780004, x780005 => if x32 = true then (some (([(⟨(⟨x779000, x779001, x779002⟩ : S36), (⟨x779003, x779004, x779005⟩ : S36)⟩ : S66)] : List (S66)))) else ((address_Compare.f x779000 x779001 x779002 x780000 x780001 x780002).bind fun t785 => (if t785 < 0 then ((address_Previous.f x780000 x780001 x780002).bind fun bt786 => (if ([] : List (S66)).length < 2932031007402 then (addrset_without.j1 k (([] : List (S66)) ++ [(⟨(⟨x779000, x779001, x779002⟩ : S36), (⟨bt786.1, bt786.2.1, bt786.2.2.1⟩ : S36)⟩ : S66)]) x779000 x779001 x779002 x779003 x779004 x779005 x780000 x780001 x780002 x780003 x780004 x780005) else (none))) else (addrset_without.j1 k ([] : List (S66)) x779000 x779001 x779002 x779003 x779004 x779005 x780000 x780001 x780002 x780003 x780004 x780005)))
def addrset_without.j1 : Nat → List (S66) → Bool → Int → Int → Bool → Int → Int → Bool → Int → Int → Bool → Int → Int → Option ((List (S66)))
  | 0, _, _, _, _, _, _, _, _, _, _, _, _, _ => none
  | k + 1, x5, x779000, x779001, x779002, x779003, x779004, x779005, x780000, x780001, x780002, x780003, x780004, x780005 => (address_Compare.f x780003 x780004 x780005 x779003 x779004 x779005).bind fun t794 => (if t794 < 0 then ((address_Next.f x780003 x780004 x780005).bind fun bt795 => (if x5.length < 2932031007402 then (some (x5 ++ [(⟨(⟨bt795.1, bt795.2.1, bt795.2.2.1⟩ : S36), (⟨x779003, x779004, x779005⟩ : S36)⟩ : S66)])) else (none))) else (some x5))
end
def addrset_without.f (k : Nat) (a0_0 : Bool) (a0_1 : Int) (a0_2 : Int) (a0_3 : Bool) (a0_4 : Int) (a0_5 : Int) (a1_0 : Bool) (a1_1 : Int) (a1_2 : Int) (a1_3 : Bool) (a1_4 : Int) (a1_5 : Int) : Option ((List (S66))) := if (a0_0 != a1_0) = true then (addrset_without.j0 k true a0_0 a0_1 a0_2 a0_3 a0_4 a0_5 a1_0 a1_1 a1_2 a1_3 a1_4 a1_5) else ((address_Compare.f a1_3 a1_4 a1_5 a0_0 a0_1 a0_2).bind fun t780 => (if t780 < 0 then (addrset_without.j0 k true a0_0 a0_1 a0_2 a0_3 a0_4 a0_5 a1_0 a1_1 a1_2 a1_3 a1_4 a1_5) else ((address_Compare.f a0_3 a0_4 a0_5 a1_0 a1_1 a1_2).bind fun t781 => (addrset_without.j0 k (decide (t781 < 0)) a0_0 a0_1 a0_2 a0_3 a0_4 a0_5 a1_0 a1_1 a1_2 a1_3 a1_4 a1_5))))
theorem addrset_without.mono_l : ∀ k, (∀ y0 y1 y2 y3 y4 y5 y6 y7 y8 y9 y10 y11 y12, LeO (addrset_without.j0 k y0 y1 y2 y3 y4 y5 y6 y7 y8 y9 y10 y11 y12) (addrset_without.j0 (k + 1) y0 y1 y2 y3 y4 y5 y6 y7 y8 y9 y10 y11 y12)) ∧ (∀ y0 y1 y2 y3 y4 y5 y6 y7 y8 y9 y10 y11 y12, LeO (addrset_without.j1 k y0 y1 y2 y3 y4 y5 y6 y7 y8 y9 y10 y11 y12) (addrset_without.j1 (k + 1) y0 y1 y2 y3 y4 y5 y6 y7 y8 y9 y10 y11 y12))
  | 0 => ⟨fun _ _ _ _ _ _ _ _ _ _ _ _ _ r h => by simp [addrset_without.j0] at h, fun _ _ _ _ _ _ _ _ _ _ _ _ _ r h => by simp [addrset_without.j1] at h⟩
  | k + 1 => by
    obtain ⟨ih0, ih1⟩ := addrset_without.mono_l k
    refine ⟨?_, ?_⟩
    · intro y0 y1 y2 y3 y4 y5 y6 y7 y8 y9 y10 y11 y12
      unfold addrset_without.j0
      repeat' first
      | (with_reducible exact ih0 _ _ _ _ _ _ _ _ _ _ _ _ _)
      | (with_reducible exact ih1 _ _ _ _ _ _ _ _ _ _ _ _ _)
      | (with_reducible exact LeO.refl _)
      | (with_reducible exact LeO.none _)
      | (with_reducible refine LeO.ite ?_ ?_)
      | (with_reducible refine LeO.bind ?_ (fun _ => ?_))
      | exact ih0 _ _ _ _ _ _ _ _ _ _ _ _ _
      | exact ih1 _ _ _ _ _ _ _ _ _ _ _ _ _
      | exact LeO.none _
      | refine LeO.ite ?_ ?_
      | refine LeO.bind ?_ (fun _ => ?_)
    · intro y0 y1 y2 y3 y4 y5 y6 y7 y8 y9 y10 y11 y12
      unfold addrset_without.j1
      repeat' first
      | (with_reducible exact ih0 _ _ _ _ _ _ _ _ _ _ _ _ _)
      | (with_reducible exact ih1 _ _ _ _ _ _ _ _ _ _ _ _ _)
      | (with_reducible exact LeO.refl _)
      | (with_reducible exact LeO.none _)
      | (with_reducible refine LeO.ite ?_ ?_)
      | (with_reducible refine LeO.bind ?_ (fun _ => ?_))
      | exact ih0 _ _ _ _ _ _ _ _ _ _ _ _ _
      | exact ih1 _ _ _ _ _ _ _ _ _ _ _ _ _
      | exact LeO.none _
      | refine LeO.ite ?_ ?_
      | refine LeO.bind ?_ (fun _ => ?_)
theorem addrset_without.mono : ∀ a0 a1 a2 a3 a4 a5 a6 a7 a8 a9 a10 a11 k, LeO (addrset_without.f k a0 a1 a2 a3 a4 a5 a6 a7 a8 a9 a10 a11) (addrset_without.f (k + 1) a0 a1 a2 a3 a4 a5 a6 a7 a8 a9 a10 a11) := by
  intro a0 a1 a2 a3 a4 a5 a6 a7 a8 a9 a10 a11 k
  obtain ⟨ih0, ih1⟩ := addrset_without.mono_l k
  unfold addrset_without.f
  repeat' first
      | (with_reducible exact ih0 _ _ _ _ _ _ _ _ _ _ _ _ _)
      | (with_reducible exact ih1 _ _ _ _ _ _ _ _ _ _ _ _ _)
      | (with_reducible exact LeO.refl _)
      | (with_reducible exact LeO.none _)
      | (with_reducible refine LeO.ite ?_ ?_)
      | (with_reducible refine LeO.bind ?_ (fun _ => ?_))
      | exact ih0 _ _ _ _ _ _ _ _ _ _ _ _ _
      | exact ih1 _ _ _ _ _ _ _ _ _ _ _ _ _
      | exact LeO.none _
      | refine LeO.ite ?_ ?_
      | refine LeO.bind ?_ (fun _ => ?_)
end Go.Proofs.Ytcgfpffgiimgmaa.Q
end

section
namespace Go.Proofs.Ytcgfpffgiimgmaa.Q
open Go.RowKit Go.Proofs.YtcgfpffgiimgmaaW.PrintWords Go.Proofs.YtcgfpffgiimgmaaW.PrintLast Go.Proofs.YtcgfpffgiimgmaaW.PrintMore
attribute [local go_sem] max2_int min2_int max_two min_two max_three min_three max_four min_four
set_option linter.unusedVariables false
set_option linter.unusedSimpArgs false
mutual
def addrset_Minus.l0 : Nat → List (S66) → List (S66) → Int → Int → Option ((List (S66)))
  | 0, _, _, _, _ => none
  | k + 1, x5, x14, x15, x16 => if x16 < x15 then (if 0 ≤ x16 then (if x16 < (x14.length : Int) then (addrset_Minus.l1 k ([] : List (S66)) x14 x15 x16 x5 (x5.length : Int) 0 ((rd_T66 x14 x16).f0.f0) ((rd_T66 x14 x16).f0.f1) ((rd_T66 x14 x16).f0.f2) ((rd_T66 x14 x16).f1.f0) ((rd_T66 x14 x16).f1.f1) ((rd_T66 x14 x16).f1.f2)) else (none)) else (none)) else ((addrset_Normal.f k x5).bind fun t809 => (some t809))
def addrset_Minus.l1 : Nat → List (S66) → List (S66) → Int → Int → List (S66) → Int → Int → Bool → Int → Int → Bool → Int → Int → Option ((List (S66)))
  | 0, _, _, _, _, _, _, _, _, _, _, _, _, _ => none
  | k + 1, x8, x14, x15, x16, x20, x21, x22, x814000, x814001, x814002, x814003, x814004, x814005 => if x22 < x21 then (if 0 ≤ x22 then (if x22 < (x20.length : Int) then ((addrset_without.f k ((rd_T66 x20 x22).f0.f0) ((rd_T66 x20 x22).f0.f1) ((rd_T66 x20 x22).f0.f2) ((rd_T66 x20 x22).f1.f0) ((rd_T66 x20 x22).f1.f1) ((rd_T66 x20 x22).f1.f2) x814000 x814001 x814002 x814003 x814004 x814005).bind fun t816 => (if x8.length + t816.length < 2932031007402 then (addrset_Minus.l1 k (x8 ++ t816) x14 x15 x16 x20 x21 (wrap64 (x22 + 1)) x814000 x814001 x814002 x814003 x814004 x814005) else (none))) else (none)) else (none)) else (addrset_Minus.l0 k x8 x14 x15 (wrap64 (x16 + 1)))
end
def addrset_Minus.f (k : Nat) (l0 : List (S66)) (l1 : List (S66)) : Option ((List (S66))) := (addrset_Normal.f k l0).bind fun t803 => ((addrset_Normal.f k l1).bind fun t806 => (addrset_Minus.l0 k t803 t806 (t806.length : Int) 0))
theorem addrset_Minus.mono_l : ∀ k, (∀ y0 y1 y2 y3, LeO (addrset_Minus.l0 k y0 y1 y2 y3) (addrset_Minus.l0 (k + 1) y0 y1 y2 y3)) ∧ (∀ y0 y1 y2 y3 y4 y5 y6 y7 y8 y9 y10 y11 y12, LeO (addrset_Minus.l1 k y0 y1 y2 y3 y4 y5 y6 y7 y8 y9 y10 y11 y12) (addrset_Minus.l1 (k + 1) y0 y1 y2 y3 y4 y5 y6 y7 y8 y9 y10 y11 y12))
  | 0 => ⟨fun _ _ _ _ r h => by simp [addrset_Minus.l0] at h, fun _ _ _ _ _ _ _ _ _ _ _ _ _ r h => by simp [addrset_Minus.l1] at h⟩
  | k + 1 => by
    obtain ⟨ih0, ih1⟩ := addrset_Minus.mono_l k
    refine ⟨?_, ?_⟩
    · intro y0 y1 y2 y3
      unfold addrset_Minus.l0
      repeat' first
      | (with_reducible exact ih0 _ _ _ _)
      | (with_reducible exact ih1 _ _ _ _ _ _ _ _ _ _ _ _ _)
      | (with_reducible exact addrset_Normal.mono _ _)
      | (with_reducible exact addrset_without.mono _ _ _ _ _ _ _ _ _ _ _ _ _)
      | (with_reducible exact LeO.refl _)
      | (with_reducible exact LeO.none _)
      | (with_reducible refine LeO.ite ?_ ?_)
      | (with_reducible refine LeO.bind ?_ (fun _ => ?_))
      | exact ih0 _ _ _ _
      | exact ih1 _ _ _ _ _ _ _ _ _ _ _ _ _
      | exact addrset_Normal.mono _ _
      | exact addrset_without.mono _ _ _ _ _ _ _ _ _ _ _ _ _
      | exact LeO.none _
      | refine LeO.ite ?_ ?_
      | refine LeO.bind ?_ (fun _ => ?_)
    · intro y0 y1 y2 y3 y4 y5 y6 y7 y8 y9 y10 y11 y12
      unfold addrset_Minus.l1
      repeat' first
      | (with_reducible exact ih0 _ _ _ _)
      | (with_reducible exact ih1 _ _ _ _ _ _ _ _ _ _ _ _ _)
      | (with_reducible exact addrset_Normal.mono _ _)
      | (with_reducible exact addrset_without.mono _ _ _ _ _ _ _ _ _ _ _ _ _)
      | (with_reducible exact LeO.refl _)
      | (with_reducible exact LeO.none _)
      | (with_reducible refine LeO.ite ?_ ?_)
      | (with_reducible refine LeO.bind ?_ (fun _ => ?_))
      | exact ih0 _ _ _ _
      | exact ih1 _ _ _ _ _ _ _ _ _ _ _ _ _
      | exact addrset_Normal.mono _ _
      | exact addrset_without.mono _ _ _ _ _ _ _ _ _ _ _ _ _
      | exact LeO.none _
      | refine LeO.ite ?_ ?_
      | refine LeO.bind ?_ (fun _ => ?_)
theorem addrset_Minus.mono : ∀ a0 a1 k, LeO (addrset_Minus.f k a0 a1) (addrset_Minus.f (k + 1) a0 a1) := by
  intro a0 a1 k
  obtain ⟨ih0, ih1⟩ := addrset_Minus.mono_l k
  unfold addrset_Minus.f
  repeat' first
      | (with_reducible exact ih0 _ _ _ _)
      | (with_reducible exact ih1 _ _ _ _ _ _ _ _ _ _ _ _ _)
      | (with_reducible exact addrset_Normal.mono _ _)
      | (with_reducible exact addrset_without.mono _ _ _ _ _ _ _ _ _ _ _ _ _)
      | (with_reducible exact LeO.refl _)
      | (with_reducible exact LeO.none _)
      | (with_reducible refine LeO.ite ?_ ?_)
      | (with_reducible refine LeO.bind ?_ (fun _ => ?_))
      | exact ih0 _ _ _ _
      | exact ih1 _ _ _ _ _ _ _ _ _ _ _ _ _
      | exact addrset_Normal.mono _ _
      | exact addrset_without.mono _ _ _ _ _ _ _ _ _ _ _ _ _
      | exact LeO.none _
      | refine LeO.ite ?_ ?_
      | refine LeO.bind ?_ (fun _ => ?_)
end Go.Proofs.Ytcgfpffgiimgmaa.Q
end

section
namespace Go.Proofs.Ytcgfpffgiimgmaa.Q
open Go.RowKit Go.Proofs.YtcgfpffgiimgmaaW.PrintWords Go.Proofs.YtcgfpffgiimgmaaW.PrintLast Go.Proofs.YtcgfpffgiimgmaaW.PrintMore
attribute [local go_sem] max2_int min2_int max_two min_two max_three min_three max_four min_four
set_option linter.unusedVariables false
set_option linter.unusedSimpArgs false
def intrusionref07_All.f  : Option ((List (S66))) := some (([(⟨(⟨false, 0, 0⟩ : S36), (⟨false, 0, 4294967295⟩ : S36)⟩ : S66), (⟨(⟨true, 0, 0⟩ : S36), (⟨true, 18446744073709551615, 18446744073709551615⟩ : S36)⟩ : S66)] : List (S66)))
end Go.Proofs.Ytcgfpffgiimgmaa.Q
end

section
namespace Go.Proofs.Ytcgfpffgiimgmaa.Q
open Go.RowKit Go.Proofs.YtcgfpffgiimgmaaW.PrintWords Go.Proofs.YtcgfpffgiimgmaaW.PrintLast Go.Proofs.YtcgfpffgiimgmaaW.PrintMore
attribute [local go_sem] max2_int min2_int max_two min_two max_three min_three max_four min_four
set_option linter.unusedVariables false
set_option linter.unusedSimpArgs false
mutual
def intrusionref07_Complement.l0 : Nat → List (S66) → List (S66) → List (S66) → Int → Option ((List (S66)))
  | 0, _, _, _, _ => none
  | k + 1, x3, x4, x5, x6 => if x6 < 2 then (if 0 ≤ x6 then (if x6 < (x4.length : Int) then (intrusionref07_Complement.l1 k x3 x4 x5 x6 false 0 ((rd_T66 x4 x6).f0.f0) ((rd_T66 x4 x6).f0.f1) ((rd_T66 x4 x6).f0.f2)) else (none)) else (none)) else (some x3)
def intrusionref07_Complement.l1 : Nat → List (S66) → List (S66) → List (S66) → Int → Bool → Int → Bool → Int → Int → Option ((List (S66)))
  | 0, _, _, _, _, _, _, _, _, _ => none
  | k + 1, x3, x4, x5, x6, x8, x9, x860000, x860001, x860002 => if x9 < (x5.length : Int) then (if 0 ≤ x9 then (if (((rd_T66 x5 x9).f0.f0) != x860000) = true then (intrusionref07_Complement.l1 k x3 x4 x5 x6 x8 (wrap64 (x9 + 1)) x860000 x860001 x860002) else ((intrusionref07_Before.f x860000 x860001 x860002 ((rd_T66 x5 x9).f0.f0) ((rd_T66 x5 x9).f0.f1) ((rd_T66 x5 x9).f0.f2)).bind fun t866 => (if t866 = true then ((intrusionref07_Ahead.f ((rd_T66 x5 x9).f0.f0) ((rd_T66 x5 x9).f0.f1) ((rd_T66 x5 x9).f0.f2)).bind fun bt868 => (if x3.length < 2932031007402 then (intrusionref07_Complement.j2 k (x3 ++ [(⟨(⟨x860000, x860001, x860002⟩ : S36), (⟨bt868.1, bt868.2.1, bt868.2.2⟩ : S36)⟩ : S66)]) x4 x5 x6 x9) else (none))) else (intrusionref07_Complement.j2 k x3 x4 x5 x6 x9)))) else (none)) else (if x8 = true then (intrusionref07_Complement.l0 k x3 x4 x5 (wrap64 (x6 + 1))) else (if 0 ≤ x6 then (if x6 < (x4.length : Int) then (if x3.length < 2932031007402 then (intrusionref07_Complement.l0 k (x3 ++ [(⟨(⟨x860000, x860001, x860002⟩ : S36), (⟨(rd_T66 x4 x6).f1.f0, (rd_T66 x4 x6).f1.f1, (rd_T66 x4 x6).f1.f2⟩ : S36)⟩ : S66)]) x4 x5 (wrap64 (x6 + 1))) else (none)) else (none)) else (none)))
def intrusionref07_Complement.j2 : Nat → List (S66) → List (S66) → List (S66) → Int → Int → Option ((List (S66)))
  | 0, _, _, _, _, _ => none
  | k + 1, x3, x4, x5, x6, x9 => if 0 ≤ x9 then (if x9 < (x5.length : Int) then ((intrusionref07_Last.f ((rd_T66 x5 x9).f1.f0) ((rd_T66 x5 x9).f1.f1) ((rd_T66 x5 x9).f1.f2)).bind fun t875 => ((intrusionref07_After.f ((rd_T66 x5 x9).f1.f0) ((rd_T66 x5 x9).f1.f1) ((rd_T66 x5 x9).f1.f2)).bind fun bt877 => (if t875 = true then (if 0 ≤ x6 then (if x6 < (x4.length : Int) then (intrusionref07_Complement.l1 k x3 x4 x5 x6 t875 (wrap64 (x9 + 1)) ((rd_T66 x4 x6).f1.f0) ((rd_T66 x4 x6).f1.f1) ((rd_T66 x4 x6).f1.f2)) else (none)) else (none)) else (intrusionref07_Complement.l1 k x3 x4 x5 x6 t875 (wrap64 (x9 + 1)) bt877.1 bt877.2.1 bt877.2.2)))) else (none)) else (none)
end
def intrusionref07_Complement.f (k : Nat) (l0 : List (S66)) : Option ((List (S66))) := (intrusionref07_All.f).bind fun t852 => ((intrusionref07_Normal.f k l0).bind fun t855 => (intrusionref07_Complement.l0 k ([] : List (S66)) t852 t855 0))
theorem intrusionref07_Complement.mono_l : ∀ k, (∀ y0 y1 y2 y3, LeO (intrusionref07_Complement.l0 k y0 y1 y2 y3) (intrusionref07_Complement.l0 (k + 1) y0 y1 y2 y3)) ∧ (∀ y0 y1 y2 y3 y4 y5 y6 y7 y8, LeO (intrusionref07_Complement.l1 k y0 y1 y2 y3 y4 y5 y6 y7 y8) (intrusionref07_Complement.l1 (k + 1) y0 y1 y2 y3 y4 y5 y6 y7 y8)) ∧ (∀ y0 y1 y2 y3 y4, LeO (intrusionref07_Complement.j2 k y0 y1 y2 y3 y4) (intrusionref07_Complement.j2 (k + 1) y0 y1 y2 y3 y4))
  | 0 => ⟨fun _ _ _ _ r h => by simp [intrusionref07_Complement.l0] at h, fun _ _ _ _ _ _ _ _ _ r h => by simp [intrusionref07_Complement.l1] at h, fun _ _ _ _ _ r h => by simp [intrusionref07_Complement.j2] at h⟩
  | k + 1 => by
    obtain ⟨ih0, ih1, ih2⟩ := intrusionref07_Complement.mono_l k
    refine ⟨?_, ?_, ?_⟩
    · intro y0 y1 y2 y3
      unfold intrusionref07_Complement.l0
      repeat' first
      | (with_reducible exact ih0 _ _ _ _)
      | (with_reducible exact ih1 _ _ _ _ _ _ _ _ _)
      | (with_reducible exact ih2 _ _ _ _ _)
      | (with_reducible exact intrusionref07_Normal.mono _ _)
      | (with_reducible exact LeO.refl _)
      | (with_reducible exact LeO.none _)
      | (with_reducible refine LeO.ite ?_ ?_)
      | (with_reducible refine LeO.bind ?_ (fun _ => ?_))
      | exact ih0 _ _ _ _
      | exact ih1 _ _ _ _ _ _ _ _ _
      | exact ih2 _ _ _ _ _
      | exact intrusionref07_Normal.mono _ _
      | exact LeO.none _
      | refine LeO.ite ?_ ?_
      | refine LeO.bind ?_ (fun _ => ?_)
    · intro y0 y1 y2 y3 y4 y5 y6 y7 y8
      unfold intrusionref07_Complement.l1
      repeat' first
      | (with_reducible exact ih0 _ _ _ _)
      | (with_reducible exact ih1 _ _ _ _ _ _ _ _ _)
      | (with_reducible exact ih2 _ _ _ _ _)
      | (with_reducible exact intrusionref07_Normal.mono _ _)
      | (with_reducible exact LeO.refl _)
      | (with_reducible exact LeO.none _)
      | (with_reducible refine LeO.ite ?_ ?_)
      | (with_reducible refine LeO.bind ?_ (fun _ => ?_))
      | exact ih0 _ _ _ _
      | exact ih1 _ _ _ _ _ _ _ _ _
      | exact ih2 _ _ _ _ _
      | exact intrusionref07_Normal.mono _ _
      | exact LeO.none _
      | refine LeO.ite ?_ ?_
      | refine LeO.bind ?_ (fun _ => ?_)
    · intro y0 y1 y2 y3 y4
      unfold intrusionref07_Complement.j2
      repeat' first
      | (with_reducible exact ih0 _ _ _ _)
      | (with_reducible exact ih1 _ _ _ _ _ _ _ _ _)
      | (with_reducible exact ih2 _ _ _ _ _)
      | (with_reducible exact intrusionref07_Normal.mono _ _)
      | (with_reducible exact LeO.refl _)
      | (with_reducible exact LeO.none _)
      | (with_reducible refine LeO.ite ?_ ?_)
      | (with_reducible refine LeO.bind ?_ (fun _ => ?_))
      | exact ih0 _ _ _ _
      | exact ih1 _ _ _ _ _ _ _ _ _
      | exact ih2 _ _ _ _ _
      | exact intrusionref07_Normal.mono _ _
      | exact LeO.none _
      | refine LeO.ite ?_ ?_
      | refine LeO.bind ?_ (fun _ => ?_)
theorem intrusionref07_Complement.mono : ∀ a0 k, LeO (intrusionref07_Complement.f k a0) (intrusionref07_Complement.f (k + 1) a0) := by
  intro a0 k
  obtain ⟨ih0, ih1, ih2⟩ := intrusionref07_Complement.mono_l k
  unfold intrusionref07_Complement.f
  repeat' first
      | (with_reducible exact ih0 _ _ _ _)
      | (with_reducible exact ih1 _ _ _ _ _ _ _ _ _)
      | (with_reducible exact ih2 _ _ _ _ _)
      | (with_reducible exact intrusionref07_Normal.mono _ _)
      | (with_reducible exact LeO.refl _)
      | (with_reducible exact LeO.none _)
      | (with_reducible refine LeO.ite ?_ ?_)
      | (with_reducible refine LeO.bind ?_ (fun _ => ?_))
      | exact ih0 _ _ _ _
      | exact ih1 _ _ _ _ _ _ _ _ _
      | exact ih2 _ _ _ _ _
      | exact intrusionref07_Normal.mono _ _
      | exact LeO.none _
      | refine LeO.ite ?_ ?_
      | refine LeO.bind ?_ (fun _ => ?_)
end Go.Proofs.Ytcgfpffgiimgmaa.Q
end

section
namespace Go.Proofs.Ytcgfpffgiimgmaa.Q
open Go.RowKit Go.Proofs.YtcgfpffgiimgmaaW.PrintWords Go.Proofs.YtcgfpffgiimgmaaW.PrintLast Go.Proofs.YtcgfpffgiimgmaaW.PrintMore
attribute [local go_sem] max2_int min2_int max_two min_two max_three min_three max_four min_four
set_option linter.unusedVariables false
set_option linter.unusedSimpArgs false
def intrusionref07_Minus.f (k : Nat) (l0 : List (S66)) (l1 : List (S66)) : Option ((List (S66))) := (intrusionref07_Complement.f k l1).bind fun t881 => ((intrusionref07_Intersect.f k l0 t881).bind fun t884 => (some t884))
theorem intrusionref07_Minus.mono : ∀ a0 a1 k, LeO (intrusionref07_Minus.f k a0 a1) (intrusionref07_Minus.f (k + 1) a0 a1) := by
  intro a0 a1 k
  unfold intrusionref07_Minus.f
  repeat' first
      | (with_reducible exact intrusionref07_Complement.mono _ _)
      | (with_reducible exact intrusionref07_Intersect.mono _ _ _)
      | (with_reducible exact LeO.refl _)
      | (with_reducible exact LeO.none _)
      | (with_reducible refine LeO.ite ?_ ?_)
      | (with_reducible refine LeO.bind ?_ (fun _ => ?_))
      | exact intrusionref07_Complement.mono _ _
      | exact intrusionref07_Intersect.mono _ _ _
      | exact LeO.none _
      | refine LeO.ite ?_ ?_
      | refine LeO.bind ?_ (fun _ => ?_)
end Go.Proofs.Ytcgfpffgiimgmaa.Q
end

section
namespace Go.Proofs.Ytcgfpffgiimgmaa.Q
open Go.RowKit Go.Proofs.YtcgfpffgiimgmaaW.PrintWords Go.Proofs.YtcgfpffgiimgmaaW.PrintLast Go.Proofs.YtcgfpffgiimgmaaW.PrintMore
attribute [local go_sem] max2_int min2_int max_two min_two max_three min_three max_four min_four
set_option linter.unusedVariables false
set_option linter.unusedSimpArgs false
def addrset_Subset.f (k : Nat) (l0 : List (S66)) (l1 : List (S66)) : Option (Bool) := (addrset_Minus.f k l0 l1).bind fun t947 => (some ((t947.length : Int) == 0))
theorem addrset_Subset.mono : ∀ a0 a1 k, LeO (addrset_Subset.f k a0 a1) (addrset_Subset.f (k + 1) a0 a1) := by
  intro a0 a1 k
  unfold addrset_Subset.f
  repeat' first
      | (with_reducible exact addrset_Minus.mono _ _ _)
      | (with_reducible exact LeO.refl _)
      | (with_reducible exact LeO.none _)
      | (with_reducible refine LeO.ite ?_ ?_)
      | (with_reducible refine LeO.bind ?_ (fun _ => ?_))
      | exact addrset_Minus.mono _ _ _
      | exact LeO.none _
      | refine LeO.ite ?_ ?_
      | refine LeO.bind ?_ (fun _ => ?_)
end Go.Proofs.Ytcgfpffgiimgmaa.Q
end

section
namespace Go.Proofs.Ytcgfpffgiimgmaa.Q
open Go.RowKit Go.Proofs.YtcgfpffgiimgmaaW.PrintWords Go.Proofs.YtcgfpffgiimgmaaW.PrintLast Go.Proofs.YtcgfpffgiimgmaaW.PrintMore
attribute [local go_sem] max2_int min2_int max_two min_two max_three min_three max_four min_four
set_option linter.unusedVariables false
set_option linter.unusedSimpArgs false
def intrusionref07_Subset.f (k : Nat) (l0 : List (S66)) (l1 : List (S66)) : Option (Bool) := (intrusionref07_Minus.f k l0 l1).bind fun t950 => (some ((t950.length : Int) == 0))
theorem intrusionref07_Subset.mono : ∀ a0 a1 k, LeO (intrusionref07_Subset.f k a0 a1) (intrusionref07_Subset.f (k + 1) a0 a1) := by
  intro a0 a1 k
  unfold intrusionref07_Subset.f
  repeat' first
      | (with_reducible exact intrusionref07_Minus.mono _ _ _)
      | (with_reducible exact LeO.refl _)
      | (with_reducible exact LeO.none _)
      | (with_reducible refine LeO.ite ?_ ?_)
      | (with_reducible refine LeO.bind ?_ (fun _ => ?_))
      | exact intrusionref07_Minus.mono _ _ _
      | exact LeO.none _
      | refine LeO.ite ?_ ?_
      | refine LeO.bind ?_ (fun _ => ?_)
end Go.Proofs.Ytcgfpffgiimgmaa.Q
end

section
set_option linter.unusedVariables false
set_option linter.unusedSimpArgs false
namespace Go.Proofs.Ytcgfpffgiimgmaa.Q
open Go.RowKit Go.Proofs.YtcgfpffgiimgmaaW.PrintWords Go.Proofs.YtcgfpffgiimgmaaW.PrintLast Go.Proofs.YtcgfpffgiimgmaaW.PrintMore Go.Proofs.Ytcgfpffgiimgmaa.Canon
def Sep : Int → List Rg → Prop
  | _, [] => True
  | lo, x :: t => lo ≤ av x.f0 ∧ RW x ∧ Sep (av x.f1 + 1) t
theorem Sep.mono {lo lo' : Int} (h : lo' ≤ lo) : ∀ {l : List Rg}, Sep lo l → Sep lo' l
  | [], _ => trivial
  | x :: t, c => ⟨Int.le_trans h c.1, c.2⟩
theorem Sep.rw : ∀ {l : List Rg} {lo : Int}, Sep lo l → ∀ x ∈ l, RW x ∧ lo ≤ av x.f0
  | [], _, _, x, hx => by simp at hx
  | y :: t, lo, c, x, hx => by
    rcases List.mem_cons.1 hx with rfl | hx
    · exact ⟨c.2.1, c.1⟩
    · obtain ⟨h1, h2⟩ := Sep.rw c.2.2 x hx
      have := c.1
      have := c.2.1.2.2.2
      exact ⟨h1, by omega⟩
end Go.Proofs.Ytcgfpffgiimgmaa.Q
end

section
namespace Go.Proofs.Ytcgfpffgiimgmaa.Q
open Go.RowKit Go.Proofs.YtcgfpffgiimgmaaW.PrintWords Go.Proofs.YtcgfpffgiimgmaaW.PrintLast Go.Proofs.YtcgfpffgiimgmaaW.PrintMore
attribute [local go_sem] max2_int min2_int max_two min_two max_three min_three max_four min_four
set_option linter.unusedVariables false
set_option linter.unusedSimpArgs false
def intrusionref07_Of.l0 : Nat → List (S45) → List (S66) → Int → Option ((List (S66)))
  | 0, _, _, _ => none
  | k + 1, x0, x3, x4 => if x4 < (x0.length : Int) then (if 0 ≤ x4 then ((intrusionref07_Right.f k ((rd_T45 x0 x4).f0.f0) ((rd_T45 x0 x4).f0.f1) ((rd_T45 x0 x4).f0.f2) ((rd_T45 x0 x4).f1)).bind fun t767 => (if t767 = true then ((intrusionref07_Block.f ((rd_T45 x0 x4).f0.f0) ((rd_T45 x0 x4).f0.f1) ((rd_T45 x0 x4).f0.f2) ((rd_T45 x0 x4).f1)).bind fun bt769 => ((intrusionref07_add.f k x3 bt769.1 bt769.2.1 bt769.2.2.1 bt769.2.2.2.1 bt769.2.2.2.2.1 bt769.2.2.2.2.2).bind fun t775 => (intrusionref07_Of.l0 k x0 t775 (wrap64 (x4 + 1))))) else (intrusionref07_Of.l0 k x0 x3 (wrap64 (x4 + 1))))) else (none)) else (some x3)
def intrusionref07_Of.f (k : Nat) (l0 : List (S45)) : Option ((List (S66))) := intrusionref07_Of.l0 k l0 ([] : List (S66)) 0
theorem intrusionref07_Of.mono_l : ∀ k, (∀ y0 y1 y2, LeO (intrusionref07_Of.l0 k y0 y1 y2) (intrusionref07_Of.l0 (k + 1) y0 y1 y2))
  | 0 => fun _ _ _ r h => by simp [intrusionref07_Of.l0] at h
  | k + 1 => by
    have ih0 := intrusionref07_Of.mono_l k
    · intro y0 y1 y2
      unfold intrusionref07_Of.l0
      repeat' first
      | (with_reducible exact ih0 _ _ _)
      | (with_reducible exact intrusionref07_Right.mono _ _ _ _ _)
      | (with_reducible exact intrusionref07_add.mono _ _ _ _ _ _ _ _)
      | (with_reducible exact LeO.refl _)
      | (with_reducible exact LeO.none _)
      | (with_reducible refine LeO.ite ?_ ?_)
      | (with_reducible refine LeO.bind ?_ (fun _ => ?_))
      | exact ih0 _ _ _
      | exact intrusionref07_Right.mono _ _ _ _ _
      | exact intrusionref07_add.mono _ _ _ _ _ _ _ _
      | exact LeO.none _
      | refine LeO.ite ?_ ?_
      | refine LeO.bind ?_ (fun _ => ?_)
theorem intrusionref07_Of.mono : ∀ a0 k, LeO (intrusionref07_Of.f k a0) (intrusionref07_Of.f (k + 1) a0) := by
  intro a0 k
  have ih0 := intrusionref07_Of.mono_l k
  unfold intrusionref07_Of.f
  repeat' first
      | (with_reducible exact ih0 _ _ _)
      | (with_reducible exact intrusionref07_Right.mono _ _ _ _ _)
      | (with_reducible exact intrusionref07_add.mono _ _ _ _ _ _ _ _)
      | (with_reducible exact LeO.refl _)
      | (with_reducible exact LeO.none _)
      | (with_reducible refine LeO.ite ?_ ?_)
      | (with_reducible refine LeO.bind ?_ (fun _ => ?_))
      | exact ih0 _ _ _
      | exact intrusionref07_Right.mono _ _ _ _ _
      | exact intrusionref07_add.mono _ _ _ _ _ _ _ _
      | exact LeO.none _
      | refine LeO.ite ?_ ?_
      | refine LeO.bind ?_ (fun _ => ?_)
end Go.Proofs.Ytcgfpffgiimgmaa.Q
end

section
namespace Go.Proofs.Ytcgfpffgiimgmaa.Q
open Go.RowKit Go.Proofs.YtcgfpffgiimgmaaW.PrintWords Go.Proofs.YtcgfpffgiimgmaaW.PrintLast Go.Proofs.YtcgfpffgiimgmaaW.PrintMore
attribute [local go_sem] max2_int min2_int max_two min_two max_three min_three max_four min_four
set_option linter.unusedVariables false
set_option linter.unusedSimpArgs false
def addrset_Eval.f (k : Nat) (l0 : List (S45)) (l1 : List (S45)) : Option ((List (S66))) := (addrset_All.f).bind fun t822 => (if (l0.length : Int) > 0 then ((addrset_Of.f k l0).bind fun t825 => ((addrset_Of.f k l1).bind fun t828 => ((addrset_Minus.f k t825 t828).bind fun t831 => (some t831)))) else ((addrset_Of.f k l1).bind fun t834 => ((addrset_Minus.f k t822 t834).bind fun t837 => (some t837))))
theorem addrset_Eval.mono : ∀ a0 a1 k, LeO (addrset_Eval.f k a0 a1) (addrset_Eval.f (k + 1) a0 a1) := by
  intro a0 a1 k
  unfold addrset_Eval.f
  repeat' first
      | (with_reducible exact addrset_Minus.mono _ _ _)
      | (with_reducible exact addrset_Of.mono _ _)
      | (with_reducible exact LeO.refl _)
      | (with_reducible exact LeO.none _)
      | (with_reducible refine LeO.ite ?_ ?_)
      | (with_reducible refine LeO.bind ?_ (fun _ => ?_))
      | exact addrset_Minus.mono _ _ _
      | exact addrset_Of.mono _ _
      | exact LeO.none _
      | refine LeO.ite ?_ ?_
      | refine LeO.bind ?_ (fun _ => ?_)
end Go.Proofs.Ytcgfpffgiimgmaa.Q
end

section
namespace Go.Proofs.Ytcgfpffgiimgmaa.Q
open Go.RowKit Go.Proofs.YtcgfpffgiimgmaaW.PrintWords Go.Proofs.YtcgfpffgiimgmaaW.PrintLast Go.Proofs.YtcgfpffgiimgmaaW.PrintMore
attribute [local go_sem] max2_int min2_int max_two min_two max_three min_three max_four min_four
set_option linter.unusedVariables false
set_option linter.unusedSimpArgs false
def intrusionref07_Eval.f (k : Nat) (l0 : List (S45)) (l1 : List (S45)) : Option ((List (S66))) := if (l0.length : Int) = 0 then ((intrusionref07_All.f).bind fun t887 => ((intrusionref07_Of.f k l1).bind fun t890 => ((intrusionref07_Minus.f k t887 t890).bind fun t893 => (some t893)))) else ((intrusionref07_Of.f k l0).bind fun t896 => ((intrusionref07_Of.f k l1).bind fun t899 => ((intrusionref07_Minus.f k t896 t899).bind fun t902 => (some t902))))
theorem intrusionref07_Eval.mono : ∀ a0 a1 k, LeO (intrusionref07_Eval.f k a0 a1) (intrusionref07_Eval.f (k + 1) a0 a1) := by
  intro a0 a1 k
  unfold intrusionref07_Eval.f
  repeat' first
      | (with_reducible exact intrusionref07_Minus.mono _ _ _)
      | (with_reducible exact intrusionref07_Of.mono _ _)
      | (with_reducible exact LeO.refl _)
      | (with_reducible exact LeO.none _)
      | (with_reducible refine LeO.ite ?_ ?_)
      | (with_reducible refine LeO.bind ?_ (fun _ => ?_))
      | exact intrusionref07_Minus.mono _ _ _
      | exact intrusionref07_Of.mono _ _
      | exact LeO.none _
      | refine LeO.ite ?_ ?_
      | refine LeO.bind ?_ (fun _ => ?_)
end Go.Proofs.Ytcgfpffgiimgmaa.Q
end

section
set_option linter.unusedVariables false
set_option linter.unusedSimpArgs false
namespace Go.Proofs.Ytcgfpffgiimgmaa.Q
open Go.RowKit Go.Proofs.YtcgfpffgiimgmaaW.PrintWords Go.Proofs.YtcgfpffgiimgmaaW.PrintLast Go.Proofs.YtcgfpffgiimgmaaW.PrintMore Go.Proofs.Ytcgfpffgiimgmaa.Canon
theorem ofInt_toNat (x : Nat) (h : x < 18446744073709551616) : (BitVec.ofInt 64 (x : Int)).toNat = x := by
  rw [BitVec.toNat_ofInt]
  simp
  omega
theorem pow_le64 (n : Nat) (hn : n ≤ 64) : 2 ^ n ≤ 18446744073709551616 := Nat.le_trans (Nat.pow_le_pow_right (by decide) hn) (by decide)
theorem bits_and (x n : Nat) (hx : x < 18446744073709551616) (hn : n ≤ 64) : Go.bits .and .u64 (x : Int) ((2 ^ n - 1 : Nat) : Int) = ((x % 2 ^ n : Nat) : Int) := by
  have hp := pow_le64 n hn
  have hpos : 0 < 2 ^ n := Nat.pow_pos (by decide)
  unfold Go.bits
  show IntKind.u64.wrap ((((BitVec.ofInt 64 (x : Int)) &&& (BitVec.ofInt 64 ((2 ^ n - 1 : Nat) : Int))).toNat : Nat) : Int) = _
  rw [BitVec.toNat_and, ofInt_toNat x hx, ofInt_toNat _ (by omega), Nat.and_two_pow_sub_one_eq_mod]
  have := Nat.mod_le x (2 ^ n)
  exact u64_id (by omega) (by omega)
theorem bits_or (x n : Nat) (hx : x < 18446744073709551616) (hn : n ≤ 64) (h0 : x % 2 ^ n = 0) : Go.bits .or .u64 (x : Int) ((2 ^ n - 1 : Nat) : Int) = ((x + (2 ^ n - 1) : Nat) : Int) ∧ x + (2 ^ n - 1) < 18446744073709551616 := by
  have hp := pow_le64 n hn
  have hpos : 0 < 2 ^ n := Nat.pow_pos (by decide)
  have hx2 : x = 2 ^ n * (x / 2 ^ n) := by have := Nat.div_add_mod x (2 ^ n); omega
  have hlt : x + (2 ^ n - 1) < 18446744073709551616 := by
    obtain ⟨m, hm⟩ : ∃ m, 18446744073709551616 = 2 ^ n * m := ⟨2 ^ (64 - n), by rw [← Nat.pow_add]; rw [show n + (64 - n) = 64 from by omega]⟩
    have h1 : x / 2 ^ n < m := by
      rw [hm, hx2] at hx
      exact Nat.lt_of_mul_lt_mul_left hx
    have h2 : 2 ^ n * (x / 2 ^ n + 1) ≤ 2 ^ n * m := Nat.mul_le_mul_left _ h1
    rw [Nat.mul_add, Nat.mul_one, ← hx2, ← hm] at h2
    omega
  refine ⟨?_, hlt⟩
  unfold Go.bits
  show IntKind.u64.wrap ((((BitVec.ofInt 64 (x : Int)) ||| (BitVec.ofInt 64 ((2 ^ n - 1 : Nat) : Int))).toNat : Nat) : Int) = _
  rw [BitVec.toNat_or, ofInt_toNat x hx, ofInt_toNat _ (by omega)]
  have h3 : x ||| (2 ^ n - 1) = x + (2 ^ n - 1) := by
    have := Nat.two_pow_add_eq_or_of_lt (i := n) (b := 2 ^ n - 1) (by omega) (x / 2 ^ n)
    rw [← hx2] at this
    exact this.symm
  rw [h3]
  exact u64_id (by omega) (by omega)
theorem shl_one (n : Nat) (hn : n < 64) : IntKind.u64.wrap ((shl .u64 1 (n : Int)) - 1) = ((2 ^ n - 1 : Nat) : Int) := by
  have hp : 2 ^ n ≤ 9223372036854775808 := Nat.le_trans (Nat.pow_le_pow_right (by decide) (show n ≤ 63 by omega)) (by decide)
  have hpos : 0 < 2 ^ n := Nat.pow_pos (by decide)
  have e : shl .u64 1 (n : Int) = ((2 ^ n : Nat) : Int) := by
    unfold shl
    rw [show min (n : Int).toNat IntKind.u64.bits = n from by show min n 64 = n; omega]
    rw [Int.one_mul, show (2 : Int) ^ n = ((2 ^ n : Nat) : Int) from by simp]
    exact u64_id (by omega) (by omega)
  rw [e]
  rw [u64_id (by omega) (by omega)]
  omega
def hiM (k : Nat) : Int := ((2 ^ (k - 64) - 1 : Nat) : Int)
def loM (k : Nat) : Int := ((2 ^ (min k 64) - 1 : Nat) : Int)
def szA (f : Bool) : Nat := if f then 128 else 32
theorem low_eq (n : Int) (h : n ≤ 1000) : address_low.f n = some (((2 ^ (min n.toNat 64) - 1 : Nat)) : Int) := by
  unfold address_low.f
  by_cases h1 : n ≥ 64
  · rw [if_pos h1, show min n.toNat 64 = 64 from by omega]
    rfl
  · rw [if_neg h1]
    by_cases h2 : n ≤ 0
    · rw [if_pos h2, show min n.toNat 64 = 0 from by omega]
      rfl
    · rw [if_neg h2, if_pos (by omega), show min n.toNat 64 = n.toNat from by omega]
      have := shl_one n.toNat (by omega)
      rw [show ((n.toNat : Nat) : Int) = n from by omega] at this
      rw [this]
theorem size_eq (a : Ad) : address_size.f a.f0 a.f1 a.f2 = some ((szA a.f0 : Nat) : Int) := by
  unfold address_size.f szA
  cases a.f0 <;> rfl
theorem mask_eq (a : Ad) (b : Int) (k : Nat) (hk : (k : Int) = (szA a.f0 : Int) - b) (h0 : 0 ≤ b) (h1 : b ≤ szA a.f0) : address_mask.f a.f0 a.f1 a.f2 b = some (hiM k, loM k) := by
  have hs : szA a.f0 ≤ 128 := by unfold szA; split <;> omega
  unfold address_mask.f
  rw [size_eq]
  simp only [Option.bind_some]
  rw [wid (x := (szA a.f0 : Int) - b) (by omega) (by omega), ← hk, wid (x := (k : Int) - 64) (by omega) (by omega), low_eq _ (by omega), low_eq _ (by omega)]
  simp only [Option.bind_some]
  unfold hiM loM
  rw [show min ((k : Int) - 64).toNat 64 = k - 64 from by omega, show min ((k : Nat) : Int).toNat 64 = min k 64 from by omega]
theorem rlow_eq (n : Nat) (h : n ≤ 128) : intrusionref07_low.f (n : Int) = some (((2 ^ (min n 64) - 1 : Nat)) : Int) := by
  unfold intrusionref07_low.f
  by_cases h1 : (n : Int) ≥ 64
  · rw [if_pos h1, show min n 64 = 64 from by omega]
    rfl
  · rw [if_neg h1, u64_id (by omega) (by omega), if_pos (by omega), shl_one n (by omega), show min n 64 = n from by omega]
theorem rmask_eq (k : Nat) (h : k ≤ 128) : intrusionref07_Mask.f (k : Int) = some (hiM k, loM k) := by
  unfold intrusionref07_Mask.f hiM loM
  by_cases h1 : (k : Int) ≤ 64
  · rw [if_pos h1, rlow_eq k h, show k - 64 = 0 from by omega]
    rfl
  · rw [if_neg h1, wid (by omega) (by omega), show (k : Int) - 64 = ((k - 64 : Nat) : Int) from by omega, rlow_eq _ (by omega), show (64 : Int) = ((64 : Nat) : Int) from rfl, rlow_eq 64 (by omega), show min (k - 64) 64 = k - 64 from by omega, show min k 64 = 64 from by omega]
    rfl
def AL (a : Ad) (k : Nat) : Prop := a.f1.toNat % 2 ^ (k - 64) = 0 ∧ a.f2.toNat % 2 ^ (min k 64) = 0
instance (a : Ad) (k : Nat) : Decidable (AL a k) := by unfold AL; infer_instance
def endA (a : Ad) (k : Nat) : Ad := ⟨a.f0, Go.bits .or .u64 a.f1 (hiM k), Go.bits .or .u64 a.f2 (loM k)⟩
theorem and_zero (x n : Nat) (hx : x < 18446744073709551616) (hn : n ≤ 64) : Go.bits .and .u64 (x : Int) ((2 ^ n - 1 : Nat) : Int) = 0 ↔ x % 2 ^ n = 0 := by
  rw [bits_and x n hx hn]
  omega
theorem al_iff {a : Ad} (ha : AW a) (k : Nat) (hk : k ≤ 128) : (Go.bits .and .u64 a.f1 (hiM k) = 0 ∧ Go.bits .and .u64 a.f2 (loM k) = 0) ↔ AL a k := by
  obtain ⟨h1, h2, h3, h4⟩ := ha
  unfold AL hiM loM
  have e1 := and_zero a.f1.toNat (k - 64) (by omega) (by omega)
  have e2 := and_zero a.f2.toNat (min k 64) (by omega) (by omega)
  rw [show ((a.f1.toNat : Nat) : Int) = a.f1 from by omega] at e1
  rw [show ((a.f2.toNat : Nat) : Int) = a.f2 from by omega] at e2
  rw [e1, e2]
theorem mod32 (x k : Nat) (hx : x ≤ 4294967295) (hk : k ≤ 32) (h : x % 2 ^ k = 0) : x + (2 ^ k - 1) ≤ 4294967295 := by
  have hpos : 0 < 2 ^ k := Nat.pow_pos (by decide)
  have hx2 : x = 2 ^ k * (x / 2 ^ k) := by have := Nat.div_add_mod x (2 ^ k); omega
  obtain ⟨m, hm⟩ : ∃ m, 4294967296 = 2 ^ k * m := ⟨2 ^ (32 - k), by rw [← Nat.pow_add]; rw [show k + (32 - k) = 32 from by omega]⟩
  have h1 : x / 2 ^ k < m := by
    have h2 : x < 4294967296 := by omega
    rw [hm, hx2] at h2
    exact Nat.lt_of_mul_lt_mul_left h2
  have h2 : 2 ^ k * (x / 2 ^ k + 1) ≤ 2 ^ k * m := Nat.mul_le_mul_left _ h1
  rw [Nat.mul_add, Nat.mul_one, ← hx2, ← hm] at h2
  omega
theorem endA_spec {a : Ad} (ha : AF a) (k : Nat) (hk : k ≤ szA a.f0) (hal : AL a k) : AF (endA a k) ∧ av (endA a k) = av a + ((2 ^ k - 1 : Nat) : Int) ∧ (endA a k).f0 = a.f0 ∧ RW ⟨a, endA a k⟩ := by
  have hs : szA a.f0 ≤ 128 := by unfold szA; split <;> omega
  obtain ⟨⟨h1, h2, h3, h4⟩, h5⟩ := ha
  obtain ⟨l1, l2⟩ := hal
  obtain ⟨e1, b1⟩ := bits_or a.f1.toNat (k - 64) (by omega) (by omega) l1
  obtain ⟨e2, b2⟩ := bits_or a.f2.toNat (min k 64) (by omega) (by omega) l2
  rw [show ((a.f1.toNat : Nat) : Int) = a.f1 from by omega] at e1
  rw [show ((a.f2.toNat : Nat) : Int) = a.f2 from by omega] at e2
  have hf1 : (endA a k).f1 = ((a.f1.toNat + (2 ^ (k - 64) - 1) : Nat) : Int) := e1
  have hf2 : (endA a k).f2 = ((a.f2.toNat + (2 ^ (min k 64) - 1) : Nat) : Int) := e2
  have hw : AW (endA a k) := ⟨by rw [hf1]; omega, by rw [hf1]; omega, by rw [hf2]; omega, by rw [hf2]; omega⟩
  have hff : (endA a k).f0 = a.f0 := rfl
  have haf : AF (endA a k) := by
    refine ⟨hw, ?_⟩
    rcases h5 with h5 | ⟨h5, h6⟩
    · exact .inl h5
    · cases hfa : a.f0
      · rw [hfa] at hk
        have hk32 : k ≤ 32 := hk
        refine .inr ⟨?_, ?_⟩
        · rw [hf1, show k - 64 = 0 from by omega]; simp; omega
        · rw [hf2, show min k 64 = k from by omega]
          rw [show min k 64 = k from by omega] at l2
          have := mod32 a.f2.toNat k (by omega) hk32 l2
          omega
      · exact .inl (by rw [hff, hfa])
  have hav : av (endA a k) = av a + ((2 ^ k - 1 : Nat) : Int) := by
    unfold av
    rw [hff, hf1, hf2]
    have hpos : 0 < 2 ^ (k - 64) := Nat.pow_pos (by decide)
    by_cases hk64 : k ≤ 64
    · rw [show k - 64 = 0 from by omega, show min k 64 = k from by omega]
      simp
      omega
    · rw [show min k 64 = 64 from by omega]
      have e : 2 ^ k = 2 ^ (k - 64) * 18446744073709551616 := by
        rw [show (18446744073709551616 : Nat) = 2 ^ 64 from by decide, ← Nat.pow_add, show k - 64 + 64 = k from by omega]
      rw [e]
      generalize 2 ^ (k - 64) = m at hpos
      omega
  exact ⟨haf, hav, hff, ⟨⟨h1, h2, h3, h4⟩, h5⟩, haf, hff.symm, by show av a ≤ av (endA a k); rw [hav]; omega⟩
def PV (p : Px) : Prop := AF p.f0 ∧ 0 ≤ p.f1 ∧ p.f1 ≤ szA p.f0.f0 ∧ AL p.f0 (szA p.f0.f0 - p.f1.toNat)
def PB (p : Px) : Prop := AW p.f0 ∧ -9223372036854775808 ≤ p.f1 ∧ p.f1 ≤ 9223372036854775807
def freeB (p : Px) : Nat := szA p.f0.f0 - p.f1.toNat
def blkR (p : Px) : Rg := ⟨p.f0, endA p.f0 (freeB p)⟩
theorem sz_le (f : Bool) : szA f ≤ 128 := by unfold szA; split <;> omega
theorem vp_iff {p : Px} (h : PB p) : vpB p = true ↔ PV p := by
  have e := vp_eq p
  unfold address_ValidPrefix.f at e
  rw [fine_eq] at e
  simp only [Option.bind_some] at e
  unfold PV
  by_cases hf : fineB p.f0 = true
  · rw [if_pos hf] at e
    have haf := (fine_iff h.1).1 hf
    by_cases h1 : p.f1 < 0
    · rw [if_pos h1] at e
      injection e with e
      rw [← e]
      constructor
      · intro g; cases g
      · rintro ⟨_, g, _⟩; omega
    · rw [if_neg h1, size_eq] at e
      simp only [Option.bind_some] at e
      by_cases h2 : p.f1 > (szA p.f0.f0 : Int)
      · rw [if_pos h2] at e
        injection e with e
        rw [← e]
        constructor
        · intro g; cases g
        · rintro ⟨_, _, g, _⟩; omega
      · rw [if_neg h2, mask_eq p.f0 p.f1 (szA p.f0.f0 - p.f1.toNat) (by omega) (by omega) (by omega)] at e
        simp only [Option.bind_some] at e
        have ha := al_iff h.1 (szA p.f0.f0 - p.f1.toNat) (by have := sz_le p.f0.f0; omega)
        by_cases h3 : Go.bits .and .u64 p.f0.f1 (hiM (szA p.f0.f0 - p.f1.toNat)) = 0
        · rw [if_pos h3] at e
          injection e with e
          rw [← e, beq_iff_eq]
          exact ⟨fun g => ⟨haf, by omega, by omega, ha.1 ⟨h3, g⟩⟩, fun g => (ha.2 g.2.2.2).2⟩
        · rw [if_neg h3] at e
          injection e with e
          rw [← e]
          exact ⟨fun g => (by cases g), fun g => absurd (ha.2 g.2.2.2).1 h3⟩
  · rw [if_neg hf] at e
    injection e with e
    rw [← e]
    exact ⟨fun g => (by cases g), fun g => absurd ((fine_iff h.1).2 g.1) hf⟩
theorem right_ev {p : Px} (h : PB p) : Ev (fun k => intrusionref07_Right.f k p.f0.f0 p.f0.f1 p.f0.f2 p.f1) (vpB p) := by
  have hv := vp_iff h
  unfold intrusionref07_Right.f
  rw [rfine_eq _ h.1]
  simp only [Option.bind_some]
  have hrs : intrusionref07_Size.f p.f0.f0 p.f0.f1 p.f0.f2 = some ((szA p.f0.f0 : Nat) : Int) := by unfold intrusionref07_Size.f szA; cases p.f0.f0 <;> rfl
  have hfalse : vpB p = false → Ev (fun k => intrusionref07_Right.j0 k true p.f0.f0 p.f0.f1 p.f0.f2 p.f1) (vpB p) := fun e => by
    rw [e]
    refine Ev.step (f := fun _ => some false) (fun k => ?_) (Ev.now _)
    simp only [intrusionref07_Right.j0]; rw [if_pos (by trivial)]
  by_cases hf : fineB p.f0 = true
  · have haf := (fine_iff h.1).1 hf
    by_cases h1 : p.f1 < 0
    · refine Ev.congr (fun k => by rw [if_pos hf, if_pos h1]) (hfalse (Bool.eq_false_iff.2 (fun g => ?_)))
      have := (hv.1 g).2.1; omega
    · by_cases h2 : p.f1 > (szA p.f0.f0 : Int)
      · refine Ev.congr (fun k => by rw [if_pos hf, if_neg h1, hrs]; simp only [Option.bind_some]; rw [decide_eq_true h2]) (hfalse (Bool.eq_false_iff.2 (fun g => ?_)))
        have := (hv.1 g).2.2.1; omega
      · refine Ev.congr (f := fun k => intrusionref07_Right.j0 k false p.f0.f0 p.f0.f1 p.f0.f2 p.f1) (fun k => by rw [if_pos hf, if_neg h1, hrs]; simp only [Option.bind_some]; rw [decide_eq_false h2]) ?_
        refine Ev.step (f := fun _ => some (vpB p)) (fun k => ?_) (Ev.now _)
        have hs := sz_le p.f0.f0
        simp only [intrusionref07_Right.j0]
        rw [if_neg (by decide), hrs]
        simp only [Option.bind_some]
        rw [wid (by omega) (by omega), show (szA p.f0.f0 : Int) - p.f1 = ((szA p.f0.f0 - p.f1.toNat : Nat) : Int) from by omega, rmask_eq _ (by omega)]
        simp only [Option.bind_some]
        have ha := al_iff h.1 (szA p.f0.f0 - p.f1.toNat) (by omega)
        by_cases h3 : Go.bits .and .u64 p.f0.f1 (hiM (szA p.f0.f0 - p.f1.toNat)) = 0
        · rw [if_pos h3]
          congr 1
          rw [Bool.eq_iff_iff, beq_iff_eq, hv]
          exact ⟨fun g => ⟨haf, by omega, by omega, ha.1 ⟨h3, g⟩⟩, fun g => (ha.2 g.2.2.2).2⟩
        · rw [if_neg h3]
          congr 1
          exact (Bool.eq_false_iff.2 (fun g => h3 (ha.2 (hv.1 g).2.2.2).1)).symm
  · refine Ev.congr (fun k => by rw [if_neg hf]) (hfalse (Bool.eq_false_iff.2 (fun g => hf ((fine_iff h.1).2 (hv.1 g).1))))
theorem bounds_eq {p : Px} (h0 : 0 ≤ p.f1) (h1 : p.f1 ≤ szA p.f0.f0) : address_Bounds.f p.f0.f0 p.f0.f1 p.f0.f2 p.f1 = some (p.f0.f0, p.f0.f1, p.f0.f2, p.f0.f0, (endA p.f0 (freeB p)).f1, (endA p.f0 (freeB p)).f2) := by
  unfold address_Bounds.f
  rw [mask_eq p.f0 p.f1 (freeB p) (by unfold freeB; omega) h0 h1]
  rfl
theorem block_eq {p : Px} (h0 : 0 ≤ p.f1) (h1 : p.f1 ≤ szA p.f0.f0) : intrusionref07_Block.f p.f0.f0 p.f0.f1 p.f0.f2 p.f1 = some (p.f0.f0, p.f0.f1, p.f0.f2, p.f0.f0, (endA p.f0 (freeB p)).f1, (endA p.f0 (freeB p)).f2) := by
  have hs := sz_le p.f0.f0
  have hrs : intrusionref07_Size.f p.f0.f0 p.f0.f1 p.f0.f2 = some ((szA p.f0.f0 : Nat) : Int) := by unfold intrusionref07_Size.f szA; cases p.f0.f0 <;> rfl
  unfold intrusionref07_Block.f
  rw [hrs]
  simp only [Option.bind_some]
  rw [wid (by omega) (by omega), show (szA p.f0.f0 : Int) - p.f1 = ((freeB p : Nat) : Int) from by unfold freeB; omega, rmask_eq _ (by unfold freeB; omega)]
  rfl
theorem blk_RW {p : Px} (h : PV p) : RW (blkR p) := (endA_spec h.1 (freeB p) (by unfold freeB; omega) h.2.2.2).2.2.2
def PSM (l : List Px) (n : Int) : Prop := ∃ p ∈ l, PV p ∧ av p.f0 ≤ n ∧ n ≤ av (endA p.f0 (freeB p))
theorem psm_nil (n : Int) : PSM [] n ↔ False := by simp [PSM]
theorem psm_cons (x : Px) (t : List Px) (n : Int) : PSM (x :: t) n ↔ (PV x ∧ av x.f0 ≤ n ∧ n ≤ av (endA x.f0 (freeB x))) ∨ PSM t n := by
  unfold PSM
  simp only [List.mem_cons]
  constructor
  · rintro ⟨y, rfl | hy, h⟩
    · exact .inl h
    · exact .inr ⟨y, hy, h⟩
  · rintro (h | ⟨y, hy, h⟩)
    · exact ⟨x, .inl rfl, h⟩
    · exact ⟨y, .inr hy, h⟩
theorem asm_blk (l : List Px) (hl : ∀ p ∈ l, PV p) (n : Int) : ASM (l.map blkR) n ↔ PSM l n := by
  unfold ASM PSM
  constructor
  · rintro ⟨x, hx, _, h⟩
    obtain ⟨p, hp, rfl⟩ := List.mem_map.1 hx
    exact ⟨p, hp, hl p hp, h⟩
  · rintro ⟨p, hp, _, h⟩
    exact ⟨blkR p, List.mem_map.2 ⟨p, hp, rfl⟩, blk_RW (hl p hp), h⟩
theorem psm_filter (l : List Px) (hl : ∀ p ∈ l, PB p) (n : Int) : PSM (l.filter vpB) n ↔ PSM l n := by
  unfold PSM
  constructor
  · rintro ⟨x, hx, g⟩; exact ⟨x, (List.mem_filter.1 hx).1, g⟩
  · rintro ⟨x, hx, g⟩; exact ⟨x, List.mem_filter.2 ⟨hx, (vp_iff (hl x hx)).2 g.1⟩, g⟩
theorem ev_aOf0 (L : List Px) (hl : L.length < 1000000) (hL : ∀ p ∈ L, PV p) {r : List Rg} (hr : Ev (fun k => addrset_Normal.f k (L.map blkR)) r) : ∀ (d i : Nat) (out : List Rg), L.length - i = d → i ≤ L.length → out ++ (L.drop i).map blkR = L.map blkR → out.length = i → Ev (fun k => addrset_Of.l0 k out L (L.length : Int) (i : Int)) r := by
  intro d
  induction d with
  | zero =>
    intro i out hd hi ho hlen
    have : i = L.length := by omega
    subst this
    have e : out = L.map blkR := by rw [← ho, List.drop_length]; simp
    subst e
    refine Ev.step (f := fun k => (addrset_Normal.f k (L.map blkR)).bind fun t => some t) (fun k => ?_) (Ev.bind hr (Ev.now _))
    simp only [addrset_Of.l0]; rw [if_neg (by omega)]
  | succ d ih =>
    intro i out hd hi ho hlen
    have hlt : i < L.length := by omega
    have hp := hL L[i] (List.getElem_mem hlt)
    rw [dropc L i hlt, List.map_cons] at ho
    have h2 := ih (i + 1) (out ++ [blkR L[i]]) (by omega) (by omega) (by rw [← ho]; simp) (by simp; omega)
    refine Ev.step (fun k => ?_) h2
    simp only [addrset_Of.l0]
    rw [if_pos (by omega), if_pos (by omega), if_pos (by omega), rd_getP L i hlt, bounds_eq hp.2.1 hp.2.2.1]
    simp only [Option.bind_some]
    rw [if_pos (by omega), wsucc i (by omega)]
    rfl
theorem aOf_spec (l : List Px) (hl : l.length < 1000000) (hb : ∀ p ∈ l, PB p) : ∃ r, Ev (fun k => addrset_Of.f k l) r ∧ ACan (PSM l) r ∧ r.length ≤ l.length := by
  have hf : ∀ p ∈ l.filter vpB, PV p := fun p hp => (vp_iff (hb p (List.mem_filter.1 hp).1)).1 (List.mem_filter.1 hp).2
  have hlen := List.length_filter_le vpB l
  have hrb : ∀ x ∈ (l.filter vpB).map blkR, RB x := fun x hx => by
    obtain ⟨p, hp, rfl⟩ := List.mem_map.1 hx
    exact (blk_RW (hf p hp)).b
  obtain ⟨r, r1, r2, r3⟩ := aNormal_spec ((l.filter vpB).map blkR) (by rw [List.length_map]; omega) hrb
  refine ⟨r, ?_, r2.congr (fun n => by rw [asm_blk _ hf, psm_filter l hb]), by rw [List.length_map] at r3; omega⟩
  have h := ev_aOf0 (l.filter vpB) (by omega) hf r1 (l.filter vpB).length 0 [] (by omega) (Nat.zero_le _) (by simp) rfl
  refine Ev.congr (fun k => ?_) h
  unfold addrset_Of.f addrset_keptP.f
  rw [if_pos (by omega)]
  rfl
end Go.Proofs.Ytcgfpffgiimgmaa.Q
end

section
set_option linter.unusedVariables false
set_option linter.unusedSimpArgs false
namespace Go.Proofs.Ytcgfpffgiimgmaa.Q
open Go.RowKit Go.Proofs.YtcgfpffgiimgmaaW.PrintWords Go.Proofs.YtcgfpffgiimgmaaW.PrintLast Go.Proofs.YtcgfpffgiimgmaaW.PrintMore Go.Proofs.Ytcgfpffgiimgmaa.Canon
theorem bv_andNot_iff (x m : BitVec 64) : x &&& ~~~m = x ↔ x &&& m = 0#64 := by
  constructor
  · intro h
    rw [← h, BitVec.and_assoc, show ~~~m &&& m = 0#64 from by
      apply BitVec.eq_of_getLsbD_eq
      intro i hi
      simp [hi], BitVec.and_zero]
  · intro h
    apply BitVec.eq_of_getLsbD_eq
    intro i hi
    have := congrArg (fun v => v.getLsbD i) h
    simp at this
    simp [hi]
    intro hx
    exact this hx
theorem andNot_iff (x n : Nat) (hx : x < 18446744073709551616) (hn : n ≤ 64) : Go.bits .andNot .u64 (x : Int) ((2 ^ n - 1 : Nat) : Int) = (x : Int) ↔ x % 2 ^ n = 0 := by
  rw [← and_zero x n hx hn]
  unfold Go.bits
  show IntKind.u64.wrap ((((BitVec.ofInt 64 (x : Int)) &&& ~~~(BitVec.ofInt 64 ((2 ^ n - 1 : Nat) : Int))).toNat : Nat) : Int) = _ ↔ IntKind.u64.wrap ((((BitVec.ofInt 64 (x : Int)) &&& (BitVec.ofInt 64 ((2 ^ n - 1 : Nat) : Int))).toNat : Nat) : Int) = _
  have hX := ofInt_toNat x hx
  generalize BitVec.ofInt 64 (x : Int) = X at hX ⊢
  generalize BitVec.ofInt 64 ((2 ^ n - 1 : Nat) : Int) = M
  have l1 := (X &&& ~~~M).isLt
  have l2 := (X &&& M).isLt
  rw [u64_id (by omega) (by omega), u64_id (by omega) (by omega)]
  have := bv_andNot_iff X M
  rw [← BitVec.toNat_inj, ← BitVec.toNat_inj, hX] at this
  simp only [BitVec.toNat_ofNat, Nat.zero_mod] at this
  constructor
  · intro h; have := this.1 (by omega); omega
  · intro h; have := this.2 (by omega); omega
def trunc (a : Ad) (k : Nat) : Ad := ⟨a.f0, Go.bits .andNot .u64 a.f1 (hiM k), Go.bits .andNot .u64 a.f2 (loM k)⟩
theorem mkp_eq (a : Ad) (b : Int) (k : Nat) (hk : (k : Int) = (szA a.f0 : Int) - b) (h0 : 0 ≤ b) (h1 : b ≤ szA a.f0) : address_MakePrefix.f a.f0 a.f1 a.f2 b = some ((trunc a k).f0, (trunc a k).f1, (trunc a k).f2, b, 0) := by
  unfold address_MakePrefix.f
  rw [if_neg (by omega), size_eq]
  simp only [Option.bind_some]
  rw [if_neg (by omega), mask_eq a b k hk h0 h1]
  rfl
theorem trunc_iff {a : Ad} (ha : AW a) (k : Nat) (hk : k ≤ 128) : trunc a k = a ↔ AL a k := by
  obtain ⟨h1, h2, h3, h4⟩ := ha
  have e1 := andNot_iff a.f1.toNat (k - 64) (by omega) (by omega)
  have e2 := andNot_iff a.f2.toNat (min k 64) (by omega) (by omega)
  rw [show ((a.f1.toNat : Nat) : Int) = a.f1 from by omega] at e1
  rw [show ((a.f2.toNat : Nat) : Int) = a.f2 from by omega] at e2
  unfold AL
  rw [← e1, ← e2]
  unfold trunc hiM loM
  constructor
  · intro h
    exact ⟨congrArg S36.f1 h, congrArg S36.f2 h⟩
  · rintro ⟨g1, g2⟩
    obtain ⟨f, x, y⟩ := a
    simp only at g1 g2 ⊢
    rw [g1, g2]
theorem trunc_ne {a : Ad} (ha : AW a) (k : Nat) (hk : k ≤ 128) : (!((trunc a k).f0 == a.f0) || (!((trunc a k).f1 == a.f1) || (!((trunc a k).f2 == a.f2)))) = !decide (AL a k) := by
  have := trunc_iff ha k hk
  by_cases h : AL a k
  · rw [this.2 h]; simp [h]
  · have hn : ¬ trunc a k = a := fun g => h (this.1 g)
    have h0 : (trunc a k).f0 = a.f0 := rfl
    have hx : ¬ ((trunc a k).f1 = a.f1 ∧ (trunc a k).f2 = a.f2) := fun g => hn (by
      obtain ⟨f, x, y⟩ := a
      have g1 := g.1
      have g2 := g.2
      unfold trunc at g1 g2 ⊢
      simp only at g1 g2 ⊢
      rw [g1, g2])
    rw [decide_eq_false h, h0]
    simp only [beq_self_eq_true, Bool.not_true, Bool.false_or, Bool.not_false, Bool.or_eq_true, Bool.not_eq_true', beq_eq_false_iff_ne]
    exact Classical.or_iff_not_imp_left.2 (fun g => fun g2 => hx ⟨Classical.not_not.1 g, g2⟩)
theorem pw_down {x m n : Nat} (h : n ≤ m) (hx : x % 2 ^ m = 0) : x % 2 ^ n = 0 :=
  Nat.mod_eq_zero_of_dvd (Nat.dvd_trans (Nat.pow_dvd_pow 2 h) (Nat.dvd_of_mod_eq_zero hx))
theorem al_down {a : Ad} {j k : Nat} (h : j ≤ k) (hk : AL a k) : AL a j := ⟨pw_down (by omega) hk.1, pw_down (by omega) hk.2⟩
def CK (a hi : Ad) (k : Nat) : Prop := AL a k ∧ av a + ((2 ^ k - 1 : Nat) : Int) ≤ av hi
instance (a hi : Ad) (k : Nat) : Decidable (CK a hi k) := by unfold CK; infer_instance
theorem ck_down {a hi : Ad} {j k : Nat} (h : j ≤ k) (hk : CK a hi k) : CK a hi j := by
  refine ⟨al_down h hk.1, ?_⟩
  have h1 := Nat.pow_le_pow_right (show 0 < 2 by decide) h
  have h2 := hk.2
  generalize 2 ^ k = p at h1 h2
  generalize 2 ^ j = q at h1 ⊢
  omega
theorem ck_zero {a hi : Ad} (h : av a ≤ av hi) : CK a hi 0 := ⟨⟨Nat.mod_one _, Nat.mod_one _⟩, by simpa using h⟩
theorem ck_max {a hi : Ad} (h : av a ≤ av hi) : ∀ n : Nat, ∃ K, K ≤ n ∧ ∀ j, j ≤ n → (CK a hi j ↔ j ≤ K) := by
  intro n
  induction n with
  | zero => exact ⟨0, Nat.le_refl _, fun j hj => ⟨fun _ => hj, fun _ => by rw [show j = 0 from by omega]; exact ck_zero h⟩⟩
  | succ n ih =>
    obtain ⟨K, h1, h2⟩ := ih
    by_cases hc : CK a hi (n + 1)
    · exact ⟨n + 1, Nat.le_refl _, fun j hj => ⟨fun _ => hj, fun _ => ck_down hj hc⟩⟩
    · refine ⟨K, by omega, fun j hj => ?_⟩
      by_cases hj2 : j = n + 1
      · subst hj2; exact ⟨fun g => absurd g hc, fun g => by omega⟩
      · exact h2 j (by omega)
theorem ev_great0 {a hi : Ad} (ha : AF a) (hh : AF hi) {K : Nat} (hK : K ≤ szA a.f0) (hc : ∀ j, j ≤ szA a.f0 → (CK a hi j ↔ j ≤ K)) : ∀ (d k : Nat), K - k = d → k ≤ K → Ev (fun n => addrset_greatest.l0 n ((szA a.f0 - k : Nat) : Int) a.f0 a.f1 a.f2 hi.f0 hi.f1 hi.f2 a.f0 a.f1 a.f2 ((szA a.f0 - k : Nat) : Int)) (a.f0, a.f1, a.f2, ((szA a.f0 - K : Nat) : Int)) := by
  have hs := sz_le a.f0
  intro d
  induction d with
  | zero =>
    intro k hd hk
    have : k = K := by omega
    subst this
    refine Ev.step (f := fun _ => some (a.f0, a.f1, a.f2, ((szA a.f0 - k : Nat) : Int))) (fun n => ?_) (Ev.now _)
    simp only [addrset_greatest.l0]
    by_cases h0 : ((szA a.f0 - k : Nat) : Int) > 0
    · rw [if_pos h0, wid (by omega) (by omega), mkp_eq a _ (k + 1) (by omega) (by omega) (by omega)]
      simp only [Option.bind_some, if_true]
      rw [trunc_ne ha.1 (k + 1) (by omega)]
      by_cases hal : AL a (k + 1)
      · rw [decide_eq_true hal]
        simp only [Bool.not_true, Bool.false_eq_true, if_false]
        rw [(trunc_iff ha.1 (k + 1) (by omega)).2 hal]
        have hb := bounds_eq (p := ⟨a, ((szA a.f0 - k : Nat) : Int) - 1⟩) (by show 0 ≤ ((szA a.f0 - k : Nat) : Int) - 1; omega) (by show ((szA a.f0 - k : Nat) : Int) - 1 ≤ ((szA a.f0 : Nat) : Int); omega)
        have hfb : freeB ⟨a, ((szA a.f0 - k : Nat) : Int) - 1⟩ = k + 1 := by unfold freeB; simp only; omega
        rw [hfb] at hb
        simp only at hb
        rw [hb]
        simp only [Option.bind_some]
        have he := endA_spec ha (k + 1) (by omega) hal
        have hcmp := cmp_f (endA a (k + 1)) hi
        rw [he.2.2.1] at hcmp
        rw [hcmp]
        simp only [Option.bind_some]
        rw [if_pos ?_]
        have hn : ¬ CK a hi (k + 1) := fun g => by have := (hc (k + 1) (by omega)).1 g; omega
        have hle := cmp_le' he.1.1 hh.1
        refine Int.not_le.1 (fun g => hn ⟨hal, ?_⟩)
        rw [← he.2.1]
        exact hle.1 g
      · rw [decide_eq_false hal]
        simp only [Bool.not_false, if_true]
    · rw [if_neg h0]
  | succ d ih =>
    intro k hd hk
    have h2 := ih (k + 1) (by omega) (by omega)
    refine Ev.step (fun n => ?_) h2
    simp only [addrset_greatest.l0]
    have hck := (hc (k + 1) (by omega)).2 (by omega)
    have hal := hck.1
    rw [if_pos (by omega), wid (by omega) (by omega), mkp_eq a _ (k + 1) (by omega) (by omega) (by omega)]
    simp only [Option.bind_some, if_true]
    rw [trunc_ne ha.1 (k + 1) (by omega), decide_eq_true hal]
    simp only [Bool.not_true, Bool.false_eq_true, if_false]
    rw [(trunc_iff ha.1 (k + 1) (by omega)).2 hal]
    have hb := bounds_eq (p := ⟨a, ((szA a.f0 - k : Nat) : Int) - 1⟩) (by show 0 ≤ ((szA a.f0 - k : Nat) : Int) - 1; omega) (by show ((szA a.f0 - k : Nat) : Int) - 1 ≤ ((szA a.f0 : Nat) : Int); omega)
    have hfb : freeB ⟨a, ((szA a.f0 - k : Nat) : Int) - 1⟩ = k + 1 := by unfold freeB; simp only; omega
    rw [hfb] at hb
    simp only at hb
    rw [hb]
    simp only [Option.bind_some]
    have he := endA_spec ha (k + 1) (by omega) hal
    have hcmp := cmp_f (endA a (k + 1)) hi
    rw [he.2.2.1] at hcmp
    rw [hcmp]
    simp only [Option.bind_some]
    rw [if_neg (Int.not_lt.2 ((cmp_le' he.1.1 hh.1).2 (by rw [he.2.1]; exact hck.2))), show ((szA a.f0 - k : Nat) : Int) - 1 = ((szA a.f0 - (k + 1) : Nat) : Int) from by omega]
theorem greatest_ev {a hi : Ad} (ha : AF a) (hh : AF hi) (h : av a ≤ av hi) {K : Nat} (hK : K ≤ szA a.f0) (hc : ∀ j, j ≤ szA a.f0 → (CK a hi j ↔ j ≤ K)) : Ev (fun n => addrset_greatest.f n a.f0 a.f1 a.f2 hi.f0 hi.f1 hi.f2) (a.f0, a.f1, a.f2, ((szA a.f0 - K : Nat) : Int)) := by
  have h0 := ev_great0 ha hh hK hc (K - 0) 0 rfl (Nat.zero_le _)
  have h1 : Ev (fun n => addrset_greatest.j0 n (szA a.f0 : Int) a.f0 a.f1 a.f2 hi.f0 hi.f1 hi.f2) (a.f0, a.f1, a.f2, ((szA a.f0 - K : Nat) : Int)) := by
    refine Ev.step (fun n => ?_) h0
    simp only [addrset_greatest.j0]
    rw [mkp_eq a _ 0 (by omega) (by omega) (by omega), (trunc_iff ha.1 0 (by omega)).2 ⟨Nat.mod_one _, Nat.mod_one _⟩]
    rfl
  refine Ev.congr (fun n => ?_) h1
  unfold addrset_greatest.f szA
  cases a.f0 <;> rfl
theorem ends_eq (x y : Ad) : (x.f0 == y.f0 && (x.f1 == y.f1 && x.f2 == y.f2)) = decide (x = y) := by
  by_cases h : x = y
  · subst h
    rw [beq_self_eq_true, beq_self_eq_true, beq_self_eq_true, decide_eq_true rfl]
    rfl
  · rw [decide_eq_false h, Bool.eq_false_iff]
    intro g
    rw [Bool.and_eq_true, Bool.and_eq_true, beq_iff_eq, beq_iff_eq, beq_iff_eq] at g
    obtain ⟨a, b, c⟩ := x
    obtain ⟨d, e, f⟩ := y
    obtain ⟨g1, g2, g3⟩ := g
    simp only at g1 g2 g3
    exact h (by rw [g1, g2, g3])
theorem ev_rpref2 {L : List Rg} {i : Nat} (hi : i < L.length) (out : List Px) {a : Ad} (ha : AF a) (hh : AF (L[i]'hi).f1) {K : Nat} (hK : K ≤ szA a.f0) (hc : ∀ j, j ≤ szA a.f0 → (CK a (L[i]'hi).f1 j ↔ j ≤ K)) {r : List Px}
    (next : Ev (fun k => intrusionref07_Prefixes.l2 k out L (i : Int) a.f0 a.f1 a.f2 ((szA a.f0 - K : Nat) : Int)) r) :
    ∀ (d b : Nat), szA a.f0 - K - b = d → b ≤ szA a.f0 - K → Ev (fun k => intrusionref07_Prefixes.l2 k out L (i : Int) a.f0 a.f1 a.f2 (b : Int)) r := by
  have hs := sz_le a.f0
  intro d
  induction d with
  | zero =>
    intro b hd hb
    rw [show b = szA a.f0 - K from by omega]
    exact next
  | succ d ih =>
    intro b hd hb
    have h2 := ih (b + 1) (by omega) (by omega)
    have hpb : PB ⟨a, (b : Int)⟩ := ⟨ha.1, by show _ ≤ (b : Int); omega, by show (b : Int) ≤ _; omega⟩
    obtain ⟨N, hN⟩ := right_ev hpb
    obtain ⟨M, hM⟩ := h2
    refine ⟨max N M + 1, fun k hk => ?_⟩
    obtain ⟨k, rfl⟩ : ∃ m, k = m + 1 := ⟨k - 1, by omega⟩
    have hN1 : intrusionref07_Right.f k a.f0 a.f1 a.f2 (b : Int) = some (vpB ⟨a, (b : Int)⟩) := hN k (by omega)
    have hM1 : intrusionref07_Prefixes.l2 k out L (i : Int) a.f0 a.f1 a.f2 ((b + 1 : Nat) : Int) = some r := hM k (by omega)
    simp only [intrusionref07_Prefixes.l2]
    rw [hN1]
    simp only [Option.bind_some]
    have hv := vp_iff hpb
    by_cases hr : vpB ⟨a, (b : Int)⟩ = true
    · have hp := hv.1 hr
      have hfb : freeB ⟨a, (b : Int)⟩ = szA a.f0 - b := by unfold freeB; simp
      have hbl : intrusionref07_Block.f a.f0 a.f1 a.f2 (b : Int) = some (a.f0, a.f1, a.f2, a.f0, (endA a (szA a.f0 - b)).f1, (endA a (szA a.f0 - b)).f2) := by
        rw [← hfb]
        exact block_eq hp.2.1 hp.2.2.1
      have hal : AL a (szA a.f0 - b) := by have := hp.2.2.2; simpa using this
      have he := endA_spec ha (szA a.f0 - b) (by omega) hal
      have hbe := before_eq (L[i]'hi).f1 (endA a (szA a.f0 - b)) hh.1 he.1.1
      rw [he.2.2.1] at hbe
      have hn : ¬ CK a (L[i]'hi).f1 (szA a.f0 - b) := fun g => by have := (hc _ (by omega)).1 g; omega
      have hlt : av (L[i]'hi).f1 < av (endA a (szA a.f0 - b)) := by
        refine Int.not_le.1 (fun g => hn ⟨hal, ?_⟩)
        rw [← he.2.1]; exact g
      rw [if_pos hr, if_pos (by omega), if_pos (by omega), hbl, rd_getR L i hi]
      simp only [Option.bind_some]
      rw [hbe, decide_eq_true hlt]
      simp only [Option.bind_some, if_true]
      rw [wsucc b (by omega)]
      exact hM1
    · rw [if_neg hr, wsucc b (by omega)]
      exact hM1
def preP (a : Ad) (K : Nat) : Px := ⟨a, ((szA a.f0 - K : Nat) : Int)⟩
theorem preP_PV {a hi : Ad} (ha : AF a) {K : Nat} (hK : K ≤ szA a.f0) (h : CK a hi K) : PV (preP a K) ∧ freeB (preP a K) = K := by
  have hfb : freeB (preP a K) = K := by unfold freeB preP; simp only; omega
  refine ⟨⟨ha, by unfold preP; simp only; omega, by unfold preP; simp only; omega, ?_⟩, hfb⟩
  have : szA (preP a K).f0.f0 - (preP a K).f1.toNat = K := hfb
  rw [this]
  exact h.1
theorem psm_append (a b : List Px) (n : Int) : PSM (a ++ b) n ↔ PSM a n ∨ PSM b n := by
  unfold PSM
  simp only [List.mem_append]
  constructor
  · rintro ⟨x, hx | hx, h⟩
    · exact .inl ⟨x, hx, h⟩
    · exact .inr ⟨x, hx, h⟩
  · rintro (⟨x, hx, h⟩ | ⟨x, hx, h⟩)
    · exact ⟨x, .inl hx, h⟩
    · exact ⟨x, .inr hx, h⟩
theorem ev_rpref_take {L : List Rg} {i : Nat} (hi : i < L.length) (hL : L.length < 1000000) (out : List Px) (hlen : out.length ≤ 256) {a : Ad} (ha : AF a) (hh : AF (L[i]'hi).f1) {K : Nat} (hK : K ≤ szA a.f0) (h : CK a (L[i]'hi).f1 K) {r : List Px}
    (next : Ev (fun k => if out.length + 1 > 256 then some [] else if endA a K = (L[i]'hi).f1 then intrusionref07_Prefixes.l0 k (out ++ [preP a K]) L ((i + 1 : Nat) : Int) else intrusionref07_Prefixes.l1 k (out ++ [preP a K]) L (i : Int) (nextA (endA a K)).f0 (nextA (endA a K)).f1 (nextA (endA a K)).f2) r) :
    Ev (fun k => intrusionref07_Prefixes.l2 k out L (i : Int) a.f0 a.f1 a.f2 ((szA a.f0 - K : Nat) : Int)) r := by
  have hs := sz_le a.f0
  obtain ⟨hpv, hfb⟩ := preP_PV ha hK h
  have hpb : PB (preP a K) := ⟨ha.1, by unfold preP; simp only; omega, by unfold preP; simp only; omega⟩
  have hv := vp_iff hpb
  refine Ev.step (f := fun k => (intrusionref07_Right.f k (preP a K).f0.f0 (preP a K).f0.f1 (preP a K).f0.f2 (preP a K).f1).bind fun t => if t = true then (if out.length + 1 > 256 then some [] else if endA a K = (L[i]'hi).f1 then intrusionref07_Prefixes.l0 k (out ++ [preP a K]) L ((i + 1 : Nat) : Int) else intrusionref07_Prefixes.l1 k (out ++ [preP a K]) L (i : Int) (nextA (endA a K)).f0 (nextA (endA a K)).f1 (nextA (endA a K)).f2) else intrusionref07_Prefixes.l2 k out L (i : Int) a.f0 a.f1 a.f2 (wrap64 (((szA a.f0 - K : Nat) : Int) + 1))) (fun k => ?_) (Ev.bind (right_ev hpb) ?_)
  · simp only [intrusionref07_Prefixes.l2]
    have hbl := block_eq hpv.2.1 hpv.2.2.1
    rw [hfb] at hbl
    have he := endA_spec ha K hK h.1
    have hbe := before_eq (L[i]'hi).f1 (endA a K) hh.1 he.1.1
    have haf := after_eq (endA a K)
    have hen := ends_eq (endA a K) (L[i]'hi).f1
    rw [he.2.2.1] at hbe haf hen
    have hbl2 : intrusionref07_Block.f a.f0 a.f1 a.f2 ((szA a.f0 - K : Nat) : Int) = some (a.f0, a.f1, a.f2, a.f0, (endA a K).f1, (endA a K).f2) := hbl
    rw [if_pos (by omega), if_pos (by omega), hbl2, rd_getR L i hi]
    simp only [Option.bind_some]
    rw [hbe, decide_eq_false (by rw [he.2.1]; exact Int.not_lt.2 h.2), haf, hen]
    simp only [Option.bind_some, Bool.false_eq_true, if_false]
    rw [if_pos (by omega), wsucc i (by omega)]
    simp only [List.length_append, List.length_singleton, decide_eq_true_eq]
    congr 1
    funext t
    by_cases ht : t = true
    · rw [if_pos ht, if_pos ht]
      by_cases h2 : out.length + 1 > 256
      · rw [if_pos h2, if_pos (by omega)]
      · rw [if_neg h2, if_neg (by omega)]
        rfl
    · rw [if_neg ht, if_neg ht]
  · rw [hv.2 hpv]
    exact next
theorem row_spec {L : List Rg} {i : Nat} (hi : i < L.length) (hL : L.length < 1000000) (hw : RW (L[i]'hi)) : ∀ (n : Nat) (a : Ad) (out : List Px), out.length + n = 256 → AF a → a.f0 = (L[i]'hi).f1.f0 → av a ≤ av (L[i]'hi).f1 → (∀ p ∈ out, PV p) →
    ∃ o : Option (List Px), (∃ N, ∀ g m, N ≤ g → N ≤ m → pRow g (L[i]'hi).f1 m out a = some o) ∧
      (o = none → Ev (fun k => intrusionref07_Prefixes.l1 k out L (i : Int) a.f0 a.f1 a.f2) []) ∧
      ∀ out', o = some out' → (∀ r, Ev (fun k => intrusionref07_Prefixes.l0 k out' L ((i + 1 : Nat) : Int)) r → Ev (fun k => intrusionref07_Prefixes.l1 k out L (i : Int) a.f0 a.f1 a.f2) r) ∧ out'.length ≤ 256 ∧ (∀ p ∈ out', PV p) ∧ ∀ m, PSM out' m ↔ PSM out m ∨ (av a ≤ m ∧ m ≤ av (L[i]'hi).f1) := by
  have hh := hw.2.1
  intro n
  induction n with
  | zero =>
    intro a out hlen ha hf hle hp
    obtain ⟨K, hK, hc⟩ := ck_max hle (szA a.f0)
    obtain ⟨N, hg⟩ := greatest_ev ha hh hle hK hc
    replace hg : ∀ k, N ≤ k → addrset_greatest.f k a.f0 a.f1 a.f2 (L[i]'hi).f1.f0 (L[i]'hi).f1.f1 (L[i]'hi).f1.f2 = some (a.f0, a.f1, a.f2, ((szA a.f0 - K : Nat) : Int)) := hg
    have hck := (hc K hK).2 (Nat.le_refl _)
    refine ⟨none, ⟨N + 1, fun g m h1 h2 => ?_⟩, fun _ => ?_, fun out' h => by cases h⟩
    · obtain ⟨m, rfl⟩ : ∃ m', m = m' + 1 := ⟨m - 1, by omega⟩
      unfold pRow
      rw [hg g (by omega)]
      simp only [Option.bind_some]
      rw [if_pos (by omega)]
    · refine Ev.step (f := fun k => intrusionref07_Prefixes.l2 k out L (i : Int) a.f0 a.f1 a.f2 ((0 : Nat) : Int)) (fun k => by simp only [intrusionref07_Prefixes.l1]; rfl) ?_
      refine ev_rpref2 hi out ha hh hK hc ?_ _ 0 rfl (Nat.zero_le _)
      refine ev_rpref_take hi hL out (by omega) ha hh hK hck ?_
      exact Ev.congr (fun k => by rw [if_pos (by omega)]) (Ev.now _)
  | succ n ih =>
    intro a out hlen ha hf hle hp
    obtain ⟨K, hK, hc⟩ := ck_max hle (szA a.f0)
    obtain ⟨N, hg⟩ := greatest_ev ha hh hle hK hc
    replace hg : ∀ k, N ≤ k → addrset_greatest.f k a.f0 a.f1 a.f2 (L[i]'hi).f1.f0 (L[i]'hi).f1.f1 (L[i]'hi).f1.f2 = some (a.f0, a.f1, a.f2, ((szA a.f0 - K : Nat) : Int)) := hg
    have hck := (hc K hK).2 (Nat.le_refl _)
    obtain ⟨hpv, hfb⟩ := preP_PV ha hK hck
    have he := endA_spec ha K hK hck.1
    have hbo := bounds_eq hpv.2.1 hpv.2.2.1
    rw [hfb] at hbo
    have hbo2 : address_Bounds.f a.f0 a.f1 a.f2 ((szA a.f0 - K : Nat) : Int) = some (a.f0, a.f1, a.f2, a.f0, (endA a K).f1, (endA a K).f2) := hbo
    have hen := ends_eq (endA a K) (L[i]'hi).f1
    rw [he.2.2.1] at hen
    have href : ∀ {r : List Px}, Ev (fun k => if out.length + 1 > 256 then some [] else if endA a K = (L[i]'hi).f1 then intrusionref07_Prefixes.l0 k (out ++ [preP a K]) L ((i + 1 : Nat) : Int) else intrusionref07_Prefixes.l1 k (out ++ [preP a K]) L (i : Int) (nextA (endA a K)).f0 (nextA (endA a K)).f1 (nextA (endA a K)).f2) r → Ev (fun k => intrusionref07_Prefixes.l1 k out L (i : Int) a.f0 a.f1 a.f2) r := by
      intro r hr
      refine Ev.step (f := fun k => intrusionref07_Prefixes.l2 k out L (i : Int) a.f0 a.f1 a.f2 ((0 : Nat) : Int)) (fun k => by simp only [intrusionref07_Prefixes.l1]; rfl) ?_
      refine ev_rpref2 hi out ha hh hK hc ?_ _ 0 rfl (Nat.zero_le _)
      exact ev_rpref_take hi hL out (by omega) ha hh hK hck hr
    have hp2 : ∀ p ∈ out ++ [preP a K], PV p := fun p hx => (List.mem_append.1 hx).elim (hp p) (fun g => by rw [List.mem_singleton.1 g]; exact hpv)
    have hcov : ∀ m, PSM [preP a K] m ↔ (av a ≤ m ∧ m ≤ av (endA a K)) := by
      intro m
      rw [psm_cons, psm_nil, or_false, hfb]
      exact ⟨fun h => h.2, fun h => ⟨hpv, h⟩⟩
    by_cases hE : endA a K = (L[i]'hi).f1
    · refine ⟨some (out ++ [preP a K]), ⟨N + 1, fun g m h1 h2 => ?_⟩, fun h => (by cases h), fun out' h => ?_⟩
      · obtain ⟨m, rfl⟩ : ∃ m', m = m' + 1 := ⟨m - 1, by omega⟩
        unfold pRow
        rw [hg g (by omega)]
        simp only [Option.bind_some]
        rw [if_neg (by omega), hbo2]
        simp only [Option.bind_some]
        rw [hen, decide_eq_true hE, if_pos rfl]
        rfl
      · injection h with h
        subst h
        refine ⟨fun r hr => href (Ev.congr (fun k => by rw [if_neg (by omega), if_pos hE]) hr), by simp; omega, hp2, fun m => ?_⟩
        rw [psm_append, hcov, hE]
    · have hlt : av (endA a K) < av (L[i]'hi).f1 := by
        have h1 : av (endA a K) ≤ av (L[i]'hi).f1 := by rw [he.2.1]; exact hck.2
        have h2 : av (endA a K) ≠ av (L[i]'hi).f1 := fun g => hE (av_inj he.1.1 hh.1 g)
        omega
      have hnt : endA a K ≠ topA (endA a K).f0 := by
        intro g
        have h1 := topA_max hh
        rw [← hf, ← he.2.2.1, ← g] at h1
        omega
      obtain ⟨n1, n2, n3⟩ := nextA_spec he.1 hnt
      obtain ⟨o, ⟨M, o1⟩, o2, o3⟩ := ih (nextA (endA a K)) (out ++ [preP a K]) (by simp; omega) n1 (by rw [n2, he.2.2.1, hf]) (by rw [n3]; omega) hp2
      have hnx := next_eq (endA a K) he.1
      rw [if_neg hnt] at hnx
      have hnx2 : address_Next.f a.f0 (endA a K).f1 (endA a K).f2 = some ((nextA (endA a K)).f0, (nextA (endA a K)).f1, (nextA (endA a K)).f2, true) := hnx
      refine ⟨o, ⟨max N M + 1, fun g m h1 h2 => ?_⟩, fun h => ?_, fun out' h => ?_⟩
      · obtain ⟨m, rfl⟩ : ∃ m', m = m' + 1 := ⟨m - 1, by omega⟩
        unfold pRow
        rw [hg g (by omega)]
        simp only [Option.bind_some]
        rw [if_neg (by omega), hbo2]
        simp only [Option.bind_some]
        rw [hen, decide_eq_false hE, if_neg (by decide), hnx2]
        simp only [Option.bind_some, if_true]
        exact o1 g m (by omega) (by omega)
      · exact href (Ev.congr (fun k => by rw [if_neg (by omega), if_neg hE]) (o2 h))
      · obtain ⟨q1, q2, q3, q4⟩ := o3 out' h
        refine ⟨fun r hr => href (Ev.congr (fun k => by rw [if_neg (by omega), if_neg hE]) (q1 r hr)), q2, q3, fun m => ?_⟩
        rw [q4, psm_append, hcov, n3]
        have h0 : av a ≤ av (endA a K) := by rw [he.2.1]; omega
        constructor
        · rintro ((h | h) | h)
          · exact .inl h
          · exact .inr ⟨h.1, by omega⟩
          · exact .inr ⟨by omega, h.2⟩
        · rintro (h | h)
          · exact .inl (.inl h)
          · by_cases h2 : m ≤ av (endA a K)
            · exact .inl (.inr ⟨h.1, h2⟩)
            · exact .inr ⟨by omega, h.2⟩
theorem all_spec {L : List Rg} (hL : L.length < 1000000) (hw : ∀ x ∈ L, RW x) : ∀ (d i : Nat) (out : List Px), L.length - i = d → i ≤ L.length → out.length ≤ 256 → (∀ p ∈ out, PV p) →
    ∃ o : Option (List Px), (∃ N, ∀ g, N ≤ g → pAll g (L.drop i) out = some o) ∧ Ev (fun k => intrusionref07_Prefixes.l0 k out L (i : Int)) (o.getD []) ∧
      ∀ out', o = some out' → out'.length ≤ 256 ∧ (∀ p ∈ out', PV p) ∧ ∀ m, PSM out' m ↔ PSM out m ∨ ASM (L.drop i) m := by
  intro d
  induction d with
  | zero =>
    intro i out hd hi hlen hp
    have : i = L.length := by omega
    subst this
    refine ⟨some out, ⟨0, fun g _ => by rw [List.drop_length]; rfl⟩, ?_, fun out' h => ?_⟩
    · refine Ev.step (f := fun _ => some out) (fun k => ?_) (Ev.now _)
      simp only [intrusionref07_Prefixes.l0]; rw [if_neg (by omega)]
    · injection h with h
      subst h
      exact ⟨hlen, hp, fun m => by rw [List.drop_length, asm_nil, or_false]⟩
  | succ d ih =>
    intro i out hd hi hlen hp
    have hlt : i < L.length := by omega
    have hwi := hw L[i] (List.getElem_mem hlt)
    obtain ⟨o, ⟨N, o1⟩, o2, o3⟩ := row_spec hlt hL hwi (256 - out.length) L[i].f0 out (by omega) hwi.1 hwi.2.2.1 hwi.2.2.2 hp
    have hl0 : ∀ {r : List Px}, Ev (fun k => intrusionref07_Prefixes.l1 k out L (i : Int) L[i].f0.f0 L[i].f0.f1 L[i].f0.f2) r → Ev (fun k => intrusionref07_Prefixes.l0 k out L (i : Int)) r := by
      intro r hr
      refine Ev.step (fun k => ?_) hr
      simp only [intrusionref07_Prefixes.l0]
      rw [if_pos (by omega), if_pos (by omega), rd_getR L i hlt]
    cases o with
    | none =>
      refine ⟨none, ⟨N, fun g hg => ?_⟩, hl0 (o2 rfl), fun out' h => by cases h⟩
      rw [dropc L i hlt]
      unfold pAll
      rw [o1 g g hg hg]
      rfl
    | some mid =>
      obtain ⟨q1, q2, q3, q4⟩ := o3 mid rfl
      obtain ⟨o, ⟨M, p1⟩, p2, p3⟩ := ih (i + 1) mid (by omega) (by omega) q2 q3
      refine ⟨o, ⟨max N M, fun g hg => ?_⟩, hl0 (q1 _ p2), fun out' h => ?_⟩
      · rw [dropc L i hlt]
        unfold pAll
        rw [o1 g g (by omega) (by omega)]
        exact p1 g (by omega)
      · obtain ⟨r1, r2, r3⟩ := p3 out' h
        refine ⟨r1, r2, fun m => ?_⟩
        rw [r3, q4, dropc L i hlt, asm_cons, or_assoc]
        exact or_congr_right (or_congr_left ⟨fun h => ⟨hwi, h⟩, fun h => h.2⟩)
theorem prefixes_spec (l : List Rg) (hl : l.length < 1000) (hb : ∀ x ∈ l, RB x) : ∃ R N, Ev (fun k => addrset_Prefixes.f k l) R ∧ Ev (fun k => intrusionref07_Prefixes.f k l) R ∧ R.length ≤ 256 ∧ (∀ p ∈ R, PV p) ∧ Ev (fun k => addrset_Normal.f k l) N ∧ ACan (ASM l) N ∧ N.length ≤ l.length ∧ (R.length ≠ 0 → ∀ m, PSM R m ↔ ASM l m) := by
  obtain ⟨L, n1, n2, n3⟩ := aNormal_spec l (by omega) hb
  obtain ⟨L', m1, m2, m3⟩ := arNormal_spec l (by omega) hb
  have e := m2.uniq n2
  subst e
  obtain ⟨o, ⟨M, p1⟩, p2, p3⟩ := all_spec (by omega) m2.2.1 L'.length 0 [] (by omega) (Nat.zero_le _) (by simp) (by simp)
  rw [List.drop_zero] at p1
  refine ⟨o.getD [], L', ?_, ?_, ?_, ?_, n1, n2, n3, ?_⟩
  · unfold addrset_Prefixes.f
    exact Ev.bind (f := fun k x => (pAll k x []).bind fun o => some (o.getD [])) n1 (Ev.bind (f := fun _ o => some (o.getD [])) ⟨M, p1⟩ (Ev.now _))
  · unfold intrusionref07_Prefixes.f
    exact Ev.bind (f := fun k t => intrusionref07_Prefixes.l0 k ([] : List Px) t 0) m1 p2
  · cases o with
    | none => simp
    | some out' => exact (p3 out' rfl).1
  · cases o with
    | none => intro p hp; cases hp
    | some out' => exact (p3 out' rfl).2.1
  · cases o with
    | none => intro h; exact absurd rfl h
    | some out' =>
      intro _ m
      have := (p3 out' rfl).2.2 m
      rw [psm_nil, false_or, List.drop_zero, m2.2.2] at this
      exact this
end Go.Proofs.Ytcgfpffgiimgmaa.Q
end

section
set_option linter.unusedVariables false
set_option linter.unusedSimpArgs false
namespace Go.Proofs.Ytcgfpffgiimgmaa.Pure
open Go.RowKit Go.Proofs.Ytcgfpffgiimgmaa.Q Go.Proofs.YtcgfpffgiimgmaaW.PrintWords Go.Proofs.YtcgfpffgiimgmaaW.PrintLast Go.Proofs.YtcgfpffgiimgmaaW.PrintMore
theorem ev_rows (l0 : List Rg) (R : List Px) (hR : R.length ≤ 256) (next : Ev (fun k => if (R.length : Int) = 0 then ((intrusionlaw07_awake.f k).bind fun t757 => (some t757)) else ((addrset_Of.f k R).bind fun t758 => ((addrset_Normal.f k l0).bind fun t761 => ((intrusionref07_Same.f k t758 t761).bind fun t764 => (if t764 = true then ((intrusionlaw07_awake.f k).bind fun t765 => (some t765)) else (some false)))))) true) : ∀ (d i : Nat), R.length - i = d → i ≤ R.length → Ev (fun k => intrusionlaw07_AddrsetPrefixes.l0 k l0 R R (i : Int)) true := by
  intro d
  induction d with
  | zero =>
    intro i hd hi
    refine Ev.step (fun k => ?_) next
    simp only [intrusionlaw07_AddrsetPrefixes.l0]; rw [if_neg (by omega)]
  | succ d ih =>
    intro i hd hi
    refine Ev.step (fun k => ?_) (ih (i + 1) (by omega) (by omega))
    simp only [intrusionlaw07_AddrsetPrefixes.l0]
    rw [if_pos (by omega), if_pos (by omega), if_pos (by omega), wsucc i (by omega)]
    simp only [beq_self_eq_true, Bool.not_true, Bool.or_self, Bool.false_eq_true, if_false]
theorem AddrsetPrefixes : ∀ (l0 : List (Rg)), l0.length ≤ maxLen → (∀ x ∈ l0, q66 x) → ∃ k, intrusionlaw07_AddrsetPrefixes.f k l0 = some true := by
  intro l0 hm hq
  have qa : ∀ x ∈ l0, RB x := fun x hx => rb_of (hq x hx)
  refine Ev.rounds (g := fun k => intrusionlaw07_AddrsetPrefixes.f k l0) ?_
  unfold intrusionlaw07_AddrsetPrefixes.f intrusionlaw07_few.f
  have hno : Ev (fun k => (intrusionlaw07_awake.f k).bind fun t => some t) true := Ev.bind aawake_ev (Ev.now _)
  by_cases h0 : (l0.length : Int) ≤ 16
  · rw [if_pos h0]
    rw [decide_eq_true (by simp)]
    simp only [Option.bind_some, if_true]
    obtain ⟨R, N, r1, r2, r3, r4, r5, r6, r7, r8⟩ := prefixes_spec l0 (by omega) qa
    refine Ev.bind r1 (Ev.bind r2 ?_)
    simp only [if_true]
    refine ev_rows l0 R r3 ?_ R.length 0 rfl (Nat.zero_le _)
    by_cases hz : R.length = 0
    · exact Ev.congr (fun k => by rw [if_pos (by omega)]) hno
    · refine Ev.congr (fun k => by rw [if_neg (by omega)]) ?_
      have hpb : ∀ p ∈ R, PB p := fun p hp => by
        have h := r4 p hp
        have h1 := h.2.1
        have h2 := h.2.2.1
        have h3 := sz_le p.f0.f0
        exact ⟨h.1.1, by omega, by omega⟩
      obtain ⟨s, s1, s2, s3⟩ := aOf_spec R (by omega) hpb
      have e := s2.uniq (r6.congr (fun n => (r8 hz n).symm))
      subst e
      refine Ev.bind s1 (Ev.bind r5 (Ev.bind (aSame_ev _ (by omega)) ?_))
      simp only [if_true]
      exact hno
  · rw [if_neg h0]
    exact hno
end Go.Proofs.Ytcgfpffgiimgmaa.Pure
end

section
namespace Go.Proofs.Ytcgfpffgiimgmaa.addrsetPrefixes
open Go.ChangeShapes Go.WideShapes Go.ChangeAt Go.RowKit Go.Proofs.YtcgfpffgiimgmaaW.PrintWords Go.Proofs.Ytcgfpffgiimgmaa.Read Go.Proofs.Ytcgfpffgiimgmaa.Q
open Go.ChangeMaps (open_string shut_string)
set_option linter.unusedVariables false
theorem own : ownKnob Try.prog.godebug = none := by kernel_rfl
theorem laidOut : laidOutB Try.prog = true := by kernel_rfl
set_option maxRecDepth 100000 in
theorem lifted (os : Os) (started : os.Started) (H : Type) (enc : TypeId × Value → H) :
    ReturnsInHanded {} Try.checked os 10 .any (Rows.addrsetPrefixesSpec.pre6 enc Try.prog Try.f10 Rows.addrsetPrefixesRow.domain false) (Rows.addrsetPrefixesSpec.post enc Try.prog Try.f10 false true false false) := by
  refine returnsInHanded_of_change_sized (C := Try.checked) own started (by kernel_rfl) Try.func10
    (ChangeSpec.witness6 (enc := enc) (C := Try.checked) false ⟨#[], #[.slice none 0 0], []⟩ 8 (by kernel_rfl) (by kernel_rfl) (by kernel_rfl) (by kernel_rfl)) ?_
  intro W base args ds gs before hval0 hW hcnd hsz0 _
  have hsz : (DataW.weightsEach Try.prog (Try.f10.params.toList ++ Rows.addrsetPrefixesSpec.plain.varTypes Try.prog) (ds ++ gs)).all (· ≤ reachBytes) = true := hsz0
  have hval : ∀ (j : Nat) t v, Try.f10.params[j]? = some t → args[j]? = some v → Value.okWide Try.prog W .any base t v := hval0
  have hW' := hW
  obtain ⟨p, q, hA0, hV, rfl, hfz, hnd⟩ := hW
  have hA : DataW.TrodAll enc Try.prog W 0 (fun _ => true) true Try.f10.params.toList args.toList ds p := hA0
  rw [Try.params10] at hA hval hsz
  obtain ⟨v0, vs0, d0, ds0, p0, q0, hargs, rfl, rfl, h0, r0⟩ := trodAll_cons hA
  obtain ⟨rfl, rfl, rfl⟩ := trodAll_nil r0
  obtain rfl : args = #[v0] := by cases args; simp_all
  obtain ⟨rfl, rfl⟩ := trodVars_none hV
  obtain ⟨a0, len0, cap0, rfl⟩ := okWide_slice Try.underlying33 (hval 0 33 v0 rfl rfl)
  have k0_ := h0
  have lt0 : ∀ x ∈ p0, x.block < W.heap.size := by obtain ⟨m, hm⟩ := k0_; exact DataW.trod_lt m _ _ _ hm
  obtain ⟨fuel0, hf0⟩ := h0
  obtain ⟨l0, ⟨A0, c0, hcs0, hle0, hC0⟩, hm0, hq0⟩ := (reads_slice Try.underlying33 (by kernel_rfl) (reads_k66 W) : Reads Try.prog W (Kd.slice 66 k66) _ 33) H enc fuel0 _ _ hf0
  simp [Value.cells] at hcs0
  obtain ⟨rfl, rfl, rfl⟩ := hcs0
  clear hA0 hval0 hsz0 hsz
  obtain ⟨k, hk⟩ := Pure.AddrsetPrefixes l0 hm0 hq0
  refine (intrusionlaw07_AddrsetPrefixes.calls k _ _ l0 true W hC0 hle0 hk).mono fun e W' he => ?_
  obtain ⟨rfl, bel⟩ := he
  exact ⟨_, rfl, _, _, _, [], _, [], hW', trodAll_mk1 (shut_bool Try.underlying4 _), (trodAll_cons_mk (Below.trod laidOut (by kernel_rfl) (of_decide_eq_true (by kernel_rfl)) k0_ bel lt0) trodAll_mk0), rfl, bel.frame _, fun h => by cases h⟩
theorem over : Rows.addrsetPrefixesRow.holds Try.pinned (OpenSpec.ofChange Rows.addrsetPrefixesSpec) :=
  OpenClaim.holds_of_wide 10 Try.f10 rfl rfl rfl rfl rfl rfl rfl ⟨rfl, rfl, rfl, rfl, rfl⟩ rfl rfl rfl rfl rfl (by kernel_rfl) Try.func10 (by kernel_rfl)
    (of_decide_eq_true (by kernel_rfl)) (by unfold Func.isWrapper; first | (rw [if_pos (by decide +kernel)]; kernel_rfl) | (rw [if_neg (by decide +kernel)]; exact ⟨rfl, rfl⟩))
    (fun os started H enc _ => lifted os started H enc)
theorem proved : Rows.AddrsetPrefixesSaid := over
#print axioms proved
end Go.Proofs.Ytcgfpffgiimgmaa.addrsetPrefixes
namespace Go.Proofs.Ytcgfpffgiimgmaa
theorem addrsetPrefixes_holds : Rows.AddrsetPrefixesSaid := addrsetPrefixes.proved
end Go.Proofs.Ytcgfpffgiimgmaa
end
