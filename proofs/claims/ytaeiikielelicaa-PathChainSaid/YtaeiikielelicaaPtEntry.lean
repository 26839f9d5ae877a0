/- 'm[k] = append(m[k], v)': the entry that is there, or is made; the store into it. -/
import Derived.Test.YtaeiikielelicaaPtBoth
import Derived.Maps.AppendAt
set_option linter.unusedVariables false
set_option linter.unusedSimpArgs false
set_option linter.unusedSectionVars false
set_option linter.deprecated false
namespace Go.Proofs.Ytaeiikielelicaa.Pt
open Go.RowKit Go.Proofs Go.Am
open Pm
open Go.ChangeMaps (setBlock)
set_option maxRecDepth 1000000
set_option linter.unusedVariables false
set_option linter.unusedSimpArgs false
noncomputable section
section
variable {α : Type} [DecidableEq α] {P : Program} {kt : TypeId} {enc : α → Value}
/-- the entry of a key bears a stamp. -/
def Stamp (enc : α → Value) (w : World) (b : Nat) (x : α) (st : Nat) : Prop := ∃ es clock, w.heap[b]? = some (.map es clock) ∧ ∃ (j : Nat) (e : MapEntry), es.toList[j]? = some e ∧ e.key = enc x ∧ e.born = st
theorem Stamp.keep {w w' : World} {b : Nat} {x : α} {st : Nat} (h : Stamp enc w b x st) (hb : w'.heap[b]? = w.heap[b]?) : Stamp enc w' b x st := by
  obtain ⟨es, clock, h1, h2⟩ := h
  exact ⟨es, clock, hb.trans h1, h2⟩
theorem entry_put (K : KeyEnc P kt enc) {mt et : TypeId} (ht : P.underlying mt = some (.map kt et)) {w : World} {b : Nat} {l : List (α × Value)} (h : Ents enc w b l) (x : α) {z : Value} (hz : ∀ w, (zeroValue et).run P w = .ok z w) :
    ∃ w' st, (Instr.mapEntry mt (.map (some b)) (enc x)).run P w = .ok (.tuple #[(val? x l).getD z, .int .i64 (st : Nat)]) w' ∧ Ents enc w' b (put x ((val? x l).getD z) l) ∧ Stamp enc w' b x st ∧ w.grownBy w' (some b) ∧ w'.heap.size = w.heap.size := by
  obtain ⟨es, clock, hb, hf⟩ := h
  have h1 := key_run K x w hf
  have hv := at_val x l 0
  have hset : ∀ es' clock', (setObj b (.map es' clock')).run P w = .ok () (setBlock w b (.map es' clock')) := fun es' clock' => by simp [setObj, Sem.run, hb, setBlock]
  have hgr : ∀ es' clock', w.grownBy (setBlock w b (.map es' clock')) (some b) ∧ (setBlock w b (.map es' clock')).heap.size = w.heap.size := fun es' clock' =>
    ⟨⟨rfl, rfl, rfl, by simp [setBlock], fun i _ hi => Go.ChangeMaps.heap_setBlock_other hb _ (fun e => hi (by rw [e]))⟩, by simp [setBlock]⟩
  cases ha : at? x l 0 with
  | none =>
    rw [ha] at h1 hv
    rw [← hv]
    have hp := at_put x z l 0
    rw [ha] at hp
    dsimp only at hp
    refine ⟨setBlock w b (.map (es.push { key := enc x, val := z, born := clock }) (clock + 1)), clock, ?_, ⟨_, _, Go.ChangeMaps.heap_setBlock_same hb _, ?_, put_apart x _ hf.apart, ?_, ?_⟩, ⟨_, _, Go.ChangeMaps.heap_setBlock_same hb _, es.size, { key := enc x, val := z, born := clock }, by simp, rfl, rfl⟩, hgr _ _⟩
    · unfold Instr.mapEntry
      simp [Sem.run_bind, run_underlying ht, Result.andThen, getObj, Sem.run, hb, K.chk, h1, hset, hz, goInt]
    · show _ = (put x z l).map (encE enc)
      rw [hp, Array.toList_push, List.map_append, List.map_append, hf.kv]
      rfl
    · rw [Array.toList_push, List.map_append, List.nodup_append]
      refine ⟨hf.born, by simp, ?_⟩
      intro a ha' c hc e
      simp at hc
      obtain ⟨q, hq, rfl⟩ := List.mem_map.1 ha'
      have := hf.old q hq
      omega
    · intro e he
      rw [Array.toList_push, List.mem_append, List.mem_singleton] at he
      rcases he with he | rfl
      · exact Nat.lt_succ_of_lt (hf.old e he)
      · exact Nat.lt_succ_self _
  | some r =>
    obtain ⟨j, u⟩ := r
    rw [ha] at h1 hv
    rw [← hv]
    have hj := (at_lt x l 0 j u ha).2
    rw [Nat.sub_zero] at hj
    have hkv : (es.toList.map kv)[j]? = some (enc x, u) := by rw [hf.kv, List.getElem?_map, hj]; rfl
    obtain ⟨e, he, hek⟩ : ∃ e, es.toList[j]? = some e ∧ kv e = (enc x, u) := by
      rw [List.getElem?_map] at hkv
      exact Option.map_eq_some_iff.1 hkv
    have he2 : es[j]? = some e := by rw [← Array.getElem?_toList]; exact he
    have hk : e.key = enc x := congrArg Prod.fst hek
    have hm : (es.modify j fun e => { e with key := enc x }) = es := by
      apply Array.toList_inj.1
      rw [Array.toList_modify]
      refine (modify_eq _ (fun a => a) _ _ fun a ha' => ?_).trans (modify_same _ _)
      rw [he] at ha'
      rw [← Option.some.inj ha', ← hk]
    have hp := at_put x u l 0
    rw [ha] at hp
    dsimp only at hp
    rw [Nat.sub_zero] at hp
    have hput : put x u l = l := by
      rw [hp]
      refine (modify_eq _ (fun a => a) _ _ fun a ha' => ?_).trans (modify_same _ _)
      rw [hj] at ha'
      rw [← Option.some.inj ha']
    refine ⟨setBlock w b (.map es clock), e.born, ?_, ⟨es, clock, Go.ChangeMaps.heap_setBlock_same hb _, by show Fits enc es clock (put x u l); rw [hput]; exact hf⟩, ⟨es, clock, Go.ChangeMaps.heap_setBlock_same hb _, j, e, he, hk, rfl⟩, hgr _ _⟩
    unfold Instr.mapEntry
    simp [Sem.run_bind, run_underlying ht, Result.andThen, getObj, Sem.run, hb, K.chk, h1, hset, he2, hk, Instr.keyThatStays, K.same, hm, goInt]
theorem at_get {x : α} {u : Value} : ∀ {l : List (α × Value)} {i j : Nat}, (l.map Prod.fst).Nodup → l[j]? = some (x, u) → at? x l i = some (i + j, u) := by
  intro l
  induction l with
  | nil => intro i j _ h; simp at h
  | cons p l ih =>
    intro i j hn h
    rw [List.map_cons, List.nodup_cons] at hn
    cases j with
    | zero =>
      simp at h
      subst h
      unfold Pm.at?
      rw [if_pos rfl]
      rfl
    | succ j =>
      rw [List.getElem?_cons_succ] at h
      unfold Pm.at?
      rw [if_neg (fun e => hn.1 (by rw [← e]; exact List.mem_map.2 ⟨(x, u), List.mem_of_getElem? h, rfl⟩)), ih hn.2 h]
      congr 2
      omega
theorem entry_store (K : KeyEnc P kt enc) {mt : TypeId} {w : World} {b : Nat} {l : List (α × Value)} (h : Ents enc w b l) {x : α} {st : Nat} (hst : Stamp enc w b x st) (v : Value) :
    ∃ w', (Instr.entryStore mt (.map (some b)) (.int .i64 (st : Nat)) v).run P w = .ok () w' ∧ Ents enc w' b (put x v l) ∧ w.grownBy w' (some b) ∧ w'.heap.size = w.heap.size := by
  obtain ⟨es, clock, hb, hf⟩ := h
  obtain ⟨es', clock', hb', j, e, he, hk, hs⟩ := hst
  rw [hb] at hb'
  cases hb'
  have hset : ∀ es' clock', (setObj b (.map es' clock')).run P w = .ok () (setBlock w b (.map es' clock')) := fun es' clock' => by simp [setObj, Sem.run, hb, setBlock]
  have hkv : (es.toList.map kv)[j]? = some (enc x, e.val) := by rw [List.getElem?_map, he]; simp [kv, hk]
  rw [hf.kv, List.getElem?_map] at hkv
  obtain ⟨p, hpj, hpe⟩ := Option.map_eq_some_iff.1 hkv
  have hpx : p.1 = x := K.inj _ _ (congrArg Prod.fst hpe)
  have hat := at_get (l := l) (i := 0) hf.apart (show l[j]? = some (x, p.2) by rw [hpj, ← hpx])
  have hp := at_put x v l 0
  rw [hat] at hp
  dsimp only at hp
  rw [show 0 + j - 0 = j by omega] at hp
  have hfi : es.findIdx? (fun e => ((e.born : Int) == ((st : Nat) : Int))) = some j := by
    rw [show es.findIdx? (fun e => ((e.born : Int) == ((st : Nat) : Int))) = es.toList.findIdx? (fun e => ((e.born : Int) == ((st : Nat) : Int))) by cases es; simp, List.findIdx?_eq_some_iff_getElem]
    obtain ⟨hj1, hj2⟩ := List.getElem?_eq_some_iff.1 he
    refine ⟨hj1, by rw [hj2, hs]; simp, fun i hi => ?_⟩
    have hi1 : i < es.toList.length := by omega
    simp only [beq_iff_eq]
    intro hc
    have hc' : (es.toList[i]).born = st := by omega
    have := nodup_get hf.born (i := i) (j := j) (a := st) (by rw [List.getElem?_map, List.getElem?_eq_getElem hi1]; exact congrArg some hc') (by rw [List.getElem?_map, he]; simp [hs])
    omega
  have hb2 : (es.modify j fun e => { e with val := v }).toList.map (·.born) = es.toList.map (·.born) := by
    rw [Array.toList_modify]
    exact (modify_map (fun e : MapEntry => e.born) (fun e => { e with val := v }) (fun a => a) (fun _ => rfl) _ _).trans (modify_same _ _)
  refine ⟨setBlock w b (.map (es.modify j fun e => { e with val := v }) clock), ?_, ⟨_, _, Go.ChangeMaps.heap_setBlock_same hb _, ?_, put_apart x v hf.apart, ?_, ?_⟩, ⟨rfl, rfl, rfl, by simp [setBlock], fun i _ hi => Go.ChangeMaps.heap_setBlock_other hb _ (fun e => hi (by rw [e]))⟩, by simp [setBlock]⟩
  · unfold Instr.entryStore
    simp [Sem.run_bind, Result.andThen, getObj, Sem.run, hb, hset, hfi, asInt, asIntOf]
  · rw [hp, Array.toList_modify, modify_map kv _ (fun q => (q.1, v)) (fun _ => rfl), modify_map (encE enc) _ (fun q => (q.1, v)) (fun _ => rfl), hf.kv]
  · rw [hb2]; exact hf.born
  · intro e' he'
    have : e'.born ∈ es.toList.map (·.born) := by rw [← hb2]; exact List.mem_map_of_mem he'
    obtain ⟨q, hq, hqe⟩ := List.mem_map.1 this
    rw [← hqe]; exact hf.old q hq
end
end
end Go.Proofs.Ytaeiikielelicaa.Pt
