/- Part 8 of the proof that ValidBodiesUptoCardSaid: for every input that fits the row the law answers true and its arguments read as before, over the world as the row lays it. -/
import Derived.Test.YtablleokoifolaaGreatDoorZ7
import Derived.Test.YtablleokoifolaaGreatDoorCards
import Derived.Test.YtablleokoifolaaGreatDoorTie
import Derived.WideShapes
import Derived.LaidLaws
import Derived.LaidHandle
import Derived.OpenShut
import Derived.Deep.DeepHandedRow
import Derived.FnData
import Derived.Test.YtablleokoifolaaGreatDoorRows
set_option linter.unusedVariables false
set_option linter.unusedSimpArgs false
namespace Go.Proofs.YtablleokoifolaaGreatDoor
open Go Go.ChangeShapes Go.RowKit Go.Deep
theorem mapM_ext {α β:Type} {f g:α→Option β}:∀ {l:List α} {ys:List β},l.mapM f=some ys→(∀ a,a∈l→∀ y,f a=some y→y∈ys→g a=some y)→l.mapM g=some ys
 | [],ys,h,_ => by simpa using h
 | a :: l,ys,h,hg => by
  rw [List.mapM_cons] at h ⊢
  cases hfa:f a with
  | none => rw [hfa] at h; cases h
  | some y => 
   rw [hfa] at h
   cases hl:l.mapM f with
   | none => rw [hl] at h; cases h
   | some zs => 
    rw [hl] at h
    obtain rfl:y :: zs=ys:=Option.some.inj h
    rw [hg a (by simp) y hfa (by simp),mapM_ext hl fun b hb z hz hm => hg b (by simp [hb]) z hz (by simp [hm])]
    rfl
def TyOk (P:Program) (T:TypeId→Prop):Prop:=
 ∀ t,T t→P.underlying t=some .bool∨(∃ k,P.underlying t=some (.int k))∨P.underlying t=some .string∨(∃ e,P.underlying t=some (.slice e)∧T e∧0<P.cellsOf e)∨∃ fs,P.underlying t=some (.struct fs)∧∀ f∈fs.toList,T f.type
section
variable {H:Type} {enc:TypeId×Value→H} {P:Program} {W W':World}
theorem zBb (hs:∀ b,b<W.heap.size→W'.heap[b]? = W.heap[b]?) {base:Nat} {a:Addr} {n:Nat} {cs:List Value} (h:W.cells? base a n=some cs):W'.cells? base a n=some cs:=by
 unfold World.cells? at h ⊢
 split
 ·rename_i hb
  rw [if_pos hb] at h
  refine mapM_ext h fun i _ y hy _ => ?_
  unfold World.cell? at hy ⊢
  split at hy
  ·rename_i C T fr hh
   rw [hs _ (Array.getElem?_eq_some_iff.1 hh).1,hh]
   exact hy
  ·cases hy
 ·rename_i hb; rw [if_neg hb] at h; exact h
theorem zBl {T:TypeId→Prop} (hT:TyOk P T) (hs:∀ b,b<W.heap.size→W'.heap[b]? = W.heap[b]?) {base:Nat} {hd:Bool} {sp:Nat→Bool}:∀ (n:Nat) (t:TypeId) (cs:List Value) (x:DataW H×List MemPlace),T t →
  DataW.trod enc P W base (fun _ => true) hd n t cs=some x→(∀ p∈x.2,sp p.block=true)→DataW.trod enc P W' base sp hd n t cs=some x:=by
 intro n
 induction n with
 | zero => intro t cs x _ h; cases h
 | succ n ih => 
  intro t cs x ht h hp
  have sub:∀ e,T e→∀ (a:Addr) (m:Nat) (y:DataW H×List MemPlace),(W.cells? base a m).bind (DataW.trod enc P W base (fun _ => true) hd n e)=some y→(∀ p∈y.2,sp p.block=true) →
    (W'.cells? base a m).bind (DataW.trod enc P W' base sp hd n e)=some y:=by
   intro e he a m y hy hyp
   obtain ⟨cs',h1,h2⟩:=Option.bind_eq_some_iff.1 hy
   rw [zBb hs h1]
   exact ih e cs' y he h2 hyp
  rcases hT t ht with hu | ⟨k,hu⟩ | hu | ⟨e,hu,he,hpos⟩ | ⟨fs,hu,hfs⟩
  ·obtain ⟨b,rfl,rfl⟩:=DataW.trod_bool hu h
   simp [DataW.trod,hu]
  ·obtain ⟨z,rfl,rfl,hw⟩:=DataW.trod_int hu h
   simp [DataW.trod,hu,hw]
  ·obtain ⟨z,rfl,rfl,hw⟩:=DataW.trod_string hu h
   simp [DataW.trod,hu,hw]
  ·have h0:=h
   unfold DataW.trod at h ⊢
   rw [hu] at h ⊢
   rcases DataW.trod_slice hu h0 with ⟨rfl,rfl⟩ | ⟨a,len,cap,el0,re0,n',hn,rfl,hx,hb,hl,hm,hlen,-,hsp,-⟩
   ·rfl
   ·simp only at h ⊢
    rw [if_pos ⟨hb,hl,hm⟩] at h ⊢
    simp only [Option.bind_eq_some_iff,Option.map_eq_some_iff,if_true] at h
    obtain ⟨elems,h1,rest,h2,h3⟩:=h
    have hsa:cap - len≠0∨cap - len=0:=by omega
    have hpe:∀ y∈elems++rest,∀ p∈y.2,sp p.block=true:=by
     intro y hy p hpy
     refine hp p ?_
     rw [← h3]
     exact List.mem_append_right _ (List.mem_flatMap.2 ⟨y,hy,hpy⟩)
    have e1:=mapM_ext (g:=fun i => (W'.cells? base (a.add (i * P.cellsOf e)) (P.cellsOf e)).bind (DataW.trod enc P W' base sp hd n e)) h1 fun i _ y hy hm => sub e he _ _ y hy (hpe y (List.mem_append_left _ hm))
    rw [e1,Option.bind_some]
    have e2:(if sp a.block=true then (List.range (cap - len)).mapM fun j => (W'.cells? base (a.add ((len+j) * P.cellsOf e)) (P.cellsOf e)).bind (DataW.trod enc P W' base sp hd n e) else some [])=some rest:=by
     by_cases hz:cap - len=0
     ·rw [hz] at h2 ⊢
      simp only [List.range_zero,List.mapM_nil] at h2 ⊢
      split
      ·exact h2
      ·exact h2
     ·have hr:=mapM_some_length h2
      have:sp a.block=true:=by
       refine hp (.cell a.block (a.off+0)) ?_
       rw [← h3]
       refine List.mem_append_left _ (List.mem_map.2 ⟨0,List.mem_range.2 ?_,rfl⟩)
       simp only [List.length_range] at hr
       exact Nat.mul_pos (by omega) hpos
      rw [if_pos this]
      exact mapM_ext h2 fun i _ y hy hm => sub e he _ _ y hy (hpe y (List.mem_append_right _ hm))
    rw [e2,← h3]
    rfl
  ·unfold DataW.trod at h ⊢
   rw [hu] at h ⊢
   simp only at h ⊢
   split
   ·rename_i hl
    rw [if_pos hl] at h
    obtain ⟨xs,h1,h2⟩:=Option.map_eq_some_iff.1 h
    have hpe:∀ y∈xs,∀ p∈y.2,sp p.block=true:=by
     intro y hy p hpy
     refine hp p ?_
     rw [← h2]
     exact List.mem_flatMap.2 ⟨y,hy,hpy⟩
    have e1:=mapM_ext (g:=fun f:Field => DataW.trod enc P W' base sp hd n f.type ((cs.drop f.offset).take (P.cellsOf f.type))) h1 fun f hf y hy hm => ih f.type _ y (hfs f hf) hy (hpe y hm)
    rw [e1,← h2]
    rfl
   ·rename_i hl
    rw [if_neg hl] at h
    cases h
theorem trodAll_ext {T:TypeId→Prop} (hT:TyOk P T) (hs:∀ b,b<W.heap.size→W'.heap[b]? = W.heap[b]?) {base:Nat} {hd:Bool} {sp:Nat→Bool}:∀ (ts:List TypeId) (vs:List Value) (ds:List (DataW H)) (ps:List MemPlace),(∀ t∈ts,T t) →
  DataW.TrodAll enc P W base (fun _ => true) hd ts vs ds ps→(∀ p∈ps,sp p.block=true)→DataW.TrodAll enc P W' base sp hd ts vs ds ps
 | [],vs,ds,ps,_,h,_ => by
  obtain ⟨rfl,rfl,rfl⟩:=trodAll_nil h
  rfl
 | t :: ts,vs,ds,ps,ht,h,hp => by
  obtain ⟨v,vs1,d,ds1,a,c,rfl,rfl,rfl,⟨n,h1⟩,h2⟩:=trodAll_cons h
  exact ⟨a,c,⟨n,zBl hT hs n t _ _ (ht t (by simp)) h1 fun p hpp => hp p (by simp [hpp])⟩,trodAll_ext hT hs ts vs1 ds1 c (fun t h => ht t (by simp [h])) h2 fun p hpp => hp p (by simp [hpp]),rfl⟩
theorem zyD (hs:∀ b,b<W.heap.size→W'.heap[b]? = W.heap[b]?) (ho:W'.os=W.os) (hp:W'.output=W.output) (may:MemPlace→Prop):W.keptBut W' may:=by
 refine ⟨ho,hp,fun i hi => ?_⟩
 rw [hs i hi]
 split
 ·rename_i c t fr c' t' fr' h1 h2
  rw [h1] at h2
  cases h2
  exact ⟨rfl,rfl,rfl,fun _ _ => rfl⟩
 ·rename_i es cl es' cl' h1 h2
  rw [h1] at h2
  cases h2
  exact .inr ⟨rfl,rfl⟩
 ·rfl
end
end Go.Proofs.YtablleokoifolaaGreatDoor
set_option linter.unusedVariables false
set_option linter.unusedSimpArgs false
namespace Go.Proofs.YtablleokoifolaaGreatDoor
open Go Go.ChangeShapes Go.WideShapes Go.RowKit
theorem own:ownKnob Tryz.prog.godebug=none:=by kernel_rfl
theorem etN:Tryz.prog.globalNamed "errors.errorType" = some 0:=by kernel_rfl
theorem rtN:(Tryz.prog.cutTypes.find? (·.1 == "internal/reflectlite.rtype")).map (·.2)=some 170:=by kernel_rfl
theorem oneRow:((List.range 251).filter fun t => Tryz.prog.rowNamed t [101,114,114,111,114])=[44]:=by kernel_rfl
theorem tsize:Tryz.prog.types.size=251:=by kernel_rfl
theorem gsize:Tryz.prog.globals.size=2:=by kernel_rfl
theorem row1:((begin Tryz.prog (fun _ _ => 0) default).world.heap[1]?).bind Obj.row? = some (#[.int .i64 0],3):=by kernel_rfl
theorem ct3:Tryz.prog.cellTypes Tryz.prog.depth 3=some [3]:=by kernel_rfl
theorem b3:Tryz.prog.buildable 3=true:=by kernel_rfl
abbrev laidE:List (String×DataW Unit):=[("errors.errorType",Rows.laid_errors_errorType)]
theorem zvW {W:World} (h:laidMetH Tryz.prog laidE W):W.cell? ⟨0,0,none⟩=some errV:=by
 have h':laidMet Tryz.prog [] W∧handlesMet Tryz.prog laidE W:=h
 obtain ⟨name,u,ty,e1,e2,e3,e4,e5⟩:=h'.2 _ (List.mem_singleton.2 rfl)
 have en:name=[101,114,114,111,114]:=(Option.some.inj e1).symm
 subst en
 obtain rfl:=Option.some.inj (rtN.symm.trans e2)
 have hm:ty∈(List.range 251).filter fun t => Tryz.prog.rowNamed t [101,114,114,111,114]:=List.mem_filter.2 ⟨List.mem_range.2 (by rw [← tsize]; exact e3),e4⟩
 rw [oneRow] at hm
 obtain rfl:=List.mem_singleton.1 hm
 have hh:typeHandle Tryz.prog 44=.pointer (some ⟨2,44,none⟩):=by kernel_rfl
 rw [hh] at e5
 simpa [errV] using World.var?_cell etN e5 0
theorem zyF {P:Program} {w:World} {g:Nat} {t:TypeId} {k:IntKind} {zero:Array Value} (h:w.ShapedOpen P) (hg:g<P.globals.size)
  (h0:((begin P (fun _ _ => 0) default).world.heap[g]?).bind Obj.row? = some (zero,t)) (hz:zero.size=1)
  (hb:P.buildable t=true) (hc:P.cellTypes P.depth t=some [t]) (hu:P.underlying t=some (.int k)):∃ n,w.cell? ⟨g,0,none⟩=some (.int k n):=by
 obtain ⟨cs,hh,hs,hr⟩:=h.1 g zero t hg h0
 obtain ⟨ts,hts,_,hall⟩:=hr hb
 rw [hc] at hts
 cases hts
 have h1:0<cs.size:=by omega
 obtain ⟨u,hu',hok⟩:=hall 0 cs[0] (by simp [h1])
 have:u=t:=by simpa using hu'.symm
 subst this
 have hcell:w.cell? ⟨g,0,none⟩=some cs[0]:=by simp [World.cell?,hh,h1]
 rw [hcell]
 unfold Cell.ok at hok
 rw [hu] at hok
 cases hv:cs[0] with
 | int k' n => rw [hv] at hok; obtain ⟨rfl,_⟩:=hok; exact ⟨n,rfl⟩
 | _ => rw [hv] at hok; simp at hok
set_option maxRecDepth 100000 in
theorem maxLen_of_shape {W:World} (h:W.ShapedOpen Tryz.prog):∃ n,W.cell? ⟨1,0,none⟩=some (.int .i64 n):=
 zyF h (gsize ▸ by decide) row1 rfl b3 ct3 Tryz.underlying3
theorem cellH_of {W:World} {b:Nat} {v:Value} (h:W.cell? ⟨b,0,none⟩=some v):cellH W.heap b=some v:=by
 unfold World.cell? at h
 unfold cellH
 split at h
 ·rename_i C T fr hb
  simp only at hb
  rw [hb]
  simpa using h
 ·cases h
theorem zCz {W:World} (hl:laidMetH Tryz.prog laidE W) (hs:W.ShapedOpen Tryz.prog):E.gok W.heap∧E.gb≤W.heap.size:=by
 obtain ⟨n,hn⟩:=maxLen_of_shape hs
 refine ⟨⟨cellH_of (zvW hl),n,cellH_of hn⟩,?_⟩
 have:=cellH_of hn
 unfold cellH at this
 split at this
 ·rename_i hb
  have:=(Array.getElem?_eq_some_iff.1 hb).1
  show 2≤W.heap.size
  omega
 ·cases this
noncomputable def laidWorld (os:Os):World:=
 { World.holding Tryz.prog os ⟨#[],#[],[]⟩ with heap:=(World.holding Tryz.prog os ⟨#[],#[],[]⟩).heap.modify 0 fun
   | .cells _ t frozen => .cells #[errV] t frozen
   | o => o }
theorem laidWorld_met (os:Os) (args:Array Value):laidMetH Tryz.prog laidE ((laidWorld os).forCall (fun _ _ => 0) ⟨#[],args,[]⟩).memory:=
 laidMetH_of_parts (laidMet_nil _ _) (by kernel_rfl)
theorem zBu {H:Array Obj} {F:Nat→Prop} {b:Bool} {v:Value} (h:RVF E H F (.bool b) v):v=.bool b:=by cases h; rfl
end Go.Proofs.YtablleokoifolaaGreatDoor
set_option linter.unusedVariables false
set_option linter.unusedSimpArgs false
namespace Go.Proofs.YtablleokoifolaaGreatDoor
open Go Go.ChangeShapes Go.RowKit Go.Deep
section
variable {H:Type} {enc:TypeId×Value→H} {E:Env} {W:World}
def Rd2 (enc:TypeId×Value→H) (E:Env) (W:World) {α:Type} (t:TypeId) (en:α→List FV) (wf:α→DataW H→Prop) (n:Nat):Prop:=
 ∀ (base:Nat) (sp:Nat→Bool) (hd:Bool) (cs:List Value) (x:DataW H×List MemPlace),DataW.trod enc E.P W base sp hd n t cs=some x →
  ∃ a,wf a x.1∧cs.length=(en a).length∧∀ j,j<cs.length→RVF E W.heap (old W) (toA ((en a).getD j .undef)) (cs.getD j Go.undef)
theorem Rd2.zero {α:Type} {t:TypeId} {en:α→List FV} {wf:α→DataW H→Prop}:Rd2 enc E W t en wf 0:=fun base sp hd cs x h => by cases h
theorem rd2_int {t:TypeId} {k:IntKind} (ht:E.P.underlying t=some (.int k)) (n:Nat):Rd2 enc E W t (eI k) (fun x d => (Lit.int k x).wf=true) n:=by
 intro base sp hd cs x h
 obtain ⟨b,h1,h2,h3⟩:=zCh (enc:=enc) (E:=E) (W:=W) ht n base sp hd cs x h
 exact ⟨b,h1,h2,h3⟩
def wfS {α:Type} [Inhabited α] (wf:α→DataW H→Prop) (l:List α) (d:DataW H):Prop:=
 l.length≤maxLen∧((d=.nil∧l=[])∨∃ ds rest,d=.slice ds rest∧ds.length=l.length∧∀ i,i<l.length→wf (l.getD i default) (ds.getD i .nil))
theorem rd2_slice {α:Type} [Inhabited α] {t e:TypeId} {en:α→List FV} {wf:α→DataW H→Prop} (ht:E.P.underlying t=some (.slice e)) (hs:0<E.P.cellsOf e)
  (hsz:∀ a,(en a).length=E.P.cellsOf e) (hk:∀ a,∀ v∈en a,cellOk (toA v)=true) (n':Nat) (h:Rd2 enc E W e en wf n') :
  Rd2 enc E W t (fun l:List α => [sV en l]) (wfS wf) (n'+1):=by
 intro base sp hd cs x hx
 rcases DataW.trod_slice ht hx with ⟨rfl,rfl⟩ | ⟨a,len,cap,elems,rest,n2,hn2,rfl,rfl,hb,hl,hm,hlen0,hel,_,_⟩
 ·refine ⟨[],⟨Nat.zero_le _,.inl ⟨rfl,rfl⟩⟩,rfl,fun j hj => ?_⟩
  obtain rfl:j=0:=by simp at hj; omega
  exact .slv0 none 0
 obtain rfl:n2=n':=by omega
 let D:Nat→DataW H:=fun i => (elems.map (·.1)).getD i .nil
 have hel2:∀ i,i<len→∃ cs' y,W.cells? base (a.add (i * E.P.cellsOf e)) (E.P.cellsOf e)=some cs'∧DataW.trod enc E.P W base sp hd n2 e cs'=some y∧y.1=D i:=by
  intro i hi
  have h1:=hel i hi
  rw [List.getElem?_eq_getElem (by omega)] at h1
  obtain ⟨cs',h2,h3⟩:=Option.bind_eq_some_iff.1 h1
  refine ⟨cs',_,h2,h3,?_⟩
  show _=(elems.map (·.1)).getD i .nil
  rw [List.getD_eq_getElem?_getD,List.getElem?_map,List.getElem?_eq_getElem (by omega)]; rfl
 have key:∀ i,i<len→∃ (b:α) (cs':List Value),wf b (D i)∧E.P.cellsOf e=cs'.length∧cs'.length=(en b).length∧(∀ j,j<cs'.length→W.cell? ((a.add (i * E.P.cellsOf e)).add j)=some (cs'.getD j Go.undef)) ∧
   ∀ j,j<cs'.length→RVF E W.heap (old W) (toA ((en b).getD j .undef)) (cs'.getD j Go.undef):=by
  intro i hi
  obtain ⟨cs',y,h1,h2,h2'⟩:=hel2 i (by omega)
  obtain ⟨_,hlen,hc⟩:=World.cells?_some h1
  obtain ⟨b,w1,w2,w3⟩:=h base sp hd cs' _ h2
  rw [h2'] at w1
  refine ⟨b,cs',w1,hlen.symm,w2,fun j hj => ?_,w3⟩
  have:=hc j (by omega)
  simpa [List.getD_eq_getElem?_getD,hj] using this
 obtain ⟨B,hB⟩:=choose_lt (α:=α) (p:=fun i b => ∃ cs':List Value,wf b (D i)∧E.P.cellsOf e=cs'.length∧cs'.length=(en b).length∧(∀ j,j<cs'.length→W.cell? ((a.add (i * E.P.cellsOf e)).add j)=some (cs'.getD j Go.undef)) ∧
   ∀ j,j<cs'.length→RVF E W.heap (old W) (toA ((en b).getD j .undef)) (cs'.getD j Go.undef)) key
 have hll:((List.range len).map B).length=len:=by simp
 refine ⟨(List.range len).map B,⟨by rw [hll]; omega,.inr ⟨_,_,rfl,by rw [hll,List.length_map,hlen0],fun i hi => ?_⟩⟩,rfl,fun j hj => ?_⟩
 ·rw [hll] at hi
  have e1:((List.range len).map B).getD i default=B i:=by simp [List.getD_eq_getElem?_getD,hi]
  rw [e1,show (elems.map (·.1)).getD i .nil=D i from rfl]
  exact (hB i hi).choose_spec.1
 ·obtain rfl:j=0:=by simp at hj; omega
  show RVF E W.heap (old W) (toA (sV en ((List.range len).map B))) (.slice (some a) len cap)
  rw [toA_sV,hll]
  by_cases h0:len=0
  ·subst h0
   exact .slv0 (some a) cap
  ·have hB0:=hB 0 (by omega)
   have first:∃ C T fr,W.heap[a.block]? = some (.cells C T fr)∧a.spot=none:=by
    obtain ⟨cs',_,hc,_,hcell,_⟩:=hB0
    have:=hcell 0 (by omega)
    rw [Nat.zero_mul] at this
    have ea:(a.add 0).add 0=a:=rfl
    rw [ea] at this
    unfold World.cell? at this
    split at this
    ·rename_i C T fr hh
     refine ⟨C,T,fr,hh,?_⟩
     split at this
     ·cases this
     ·rename_i hsn
      cases hsp:a.spot with
      | none => rfl
      | some q => rw [hsp] at hsn; exact absurd rfl hsn
    ·cases this
   obtain ⟨C,T,fr,hC,hspot⟩:=first
   obtain ⟨blk,off,spot⟩:=a
   simp only at hspot hC
   subst hspot
   have cellC:∀ i j,i<len→j<E.P.cellsOf e→∃ (b:α) (cs':List Value),B i=b∧cs'.length=(en b).length∧E.P.cellsOf e=cs'.length∧off+i * E.P.cellsOf e+j<C.size∧C.getD (off+i * E.P.cellsOf e+j) Go.undef=cs'.getD j Go.undef ∧
     RVF E W.heap (old W) (toA ((en b).getD j .undef)) (cs'.getD j Go.undef):=by
    intro i j hi hj
    obtain ⟨cs',_,hc,hc2,hcell,hr⟩:=hB i hi
    have h1:=hcell j (by omega)
    rw [add_add] at h1
    have h2:(Addr.add ⟨blk,off,none⟩ (i * E.P.cellsOf e+j))=⟨blk,off+(i * E.P.cellsOf e+j),none⟩:=by
     unfold Addr.add
     split
     ·rename_i hz; simp [hz]
     ·rfl
    rw [h2] at h1
    unfold World.cell? at h1
    simp only [hC,Option.isSome_none,Bool.false_eq_true,if_false] at h1
    have hlt:off+(i * E.P.cellsOf e+j)<C.size:=(Array.getElem?_eq_some_iff.1 h1).1
    refine ⟨B i,cs',rfl,hc2,hc,by omega,?_,hr j (by omega)⟩
    have:C.getD (off+i * E.P.cellsOf e+j) Go.undef=C.getD (off+(i * E.P.cellsOf e+j)) Go.undef:=by rw [Nat.add_assoc]
    rw [this,Array.getD_eq_getD_getElem?,h1]; rfl
   have hlen2:((List.range len).map fun i => (en (((List.range len).map B).getD i default)).map toA).length=len:=by simp
   have hget:∀ i,i<len→((List.range len).map fun i => (en (((List.range len).map B).getD i default)).map toA).getD i []=(en (B i)).map toA:=by
    intro i hi
    simp [List.getD_eq_getElem?_getD,hi]
   have hr:=RVF.slv (E:=E) (H:=W.heap) (F:=old W) ((List.range len).map fun i => (en (((List.range len).map B).getD i default)).map toA) blk off cap (E.P.cellsOf e) C T fr (Array.getElem?_eq_some_iff.1 hC).1 hC
    (by
     rw [hlen2]
     have:=cellC (len - 1) (E.P.cellsOf e - 1) (by omega) (by omega)
     obtain ⟨_,_,_,_,_,hlt,_⟩:=this
     have e1:len * E.P.cellsOf e=(len - 1) * E.P.cellsOf e+E.P.cellsOf e:=by
      have:len=(len - 1)+1:=by omega
      conv => lhs; rw [this,Nat.add_mul,Nat.one_mul]
     omega)
    (by rw [hlen2]; exact hl)
    (by
     rw [hlen2]
     intro i hi
     rw [hget i hi]; simp [hsz])
    (by
     rw [hlen2]
     intro i j hi hj
     rw [hget i hi]
     have hjl:j<(en (B i)).length:=by rw [hsz]; exact hj
     rw [List.getD_eq_getElem?_getD,List.getElem?_map,List.getElem?_eq_getElem hjl]
     exact hk _ _ (List.getElem_mem hjl))
    (by
     rw [hlen2]
     intro i j hi hj
     rw [hget i hi]
     obtain ⟨b,cs',rfl,_,_,_,hcv,hrv⟩:=cellC i j hi hj
     rw [hcv]
     have hjl:j<(en (B i)).length:=by rw [hsz]; exact hj
     rw [List.getD_eq_getElem?_getD,List.getElem?_eq_getElem hjl] at hrv
     rw [List.getD_eq_getElem?_getD,List.getElem?_map,List.getElem?_eq_getElem hjl]
     exact hrv)
   rw [hlen2] at hr
   exact hr
theorem zBK:∀ d:DataW H,1≤Rows.uptoBulk d:=fun d => by
 cases d with
 | lit l => cases l <;> simp [Rows.uptoBulk]
 | _ => simp [Rows.uptoBulk]
theorem bulkAll_get:∀ (ds:List (DataW H)),ds.length≤Rows.uptoBulkAll ds∧∀ i,i<ds.length→Rows.uptoBulk (ds.getD i .nil)≤Rows.uptoBulkAll ds
 | [] => ⟨Nat.le_refl _,fun i h => by simp at h⟩
 | d :: ds => by
  obtain ⟨h1,h2⟩:=bulkAll_get ds
  have hp:=zBK d
  refine ⟨by simp only [List.length_cons,Rows.uptoBulkAll]; omega,fun i hi => ?_⟩
  cases i with
  | zero => simp only [List.getD_cons_zero,Rows.uptoBulkAll]; omega
  | succ i => 
   have:=h2 i (by simpa using hi)
   simp only [List.getD_cons_succ,Rows.uptoBulkAll]; omega
theorem wfS_len {α:Type} [Inhabited α] {wf:α→DataW H→Prop} {l:List α} {d:DataW H} (h:wfS wf l d):l.length≤Rows.uptoBulk d:=by
 rcases h.2 with ⟨rfl,rfl⟩ | ⟨ds,rest,rfl,h1,_⟩
 ·simp
 ·have:=(bulkAll_get ds).1
  simp only [Rows.uptoBulk]; omega
theorem wfS_mem {α:Type} [Inhabited α] {wf:α→DataW H→Prop} {l:List α} {d:DataW H} (h:wfS wf l d) {a:α} (ha:a∈l):∃ d',wf a d'∧Rows.uptoBulk d'≤Rows.uptoBulk d:=by
 rcases h.2 with ⟨rfl,rfl⟩ | ⟨ds,rest,rfl,h1,h2⟩
 ·cases ha
 ·obtain ⟨i,hi,rfl⟩:=List.getElem_of_mem ha
  have:=h2 i hi
  rw [List.getD_eq_getElem?_getD,List.getElem?_eq_getElem hi] at this
  refine ⟨_,this,?_⟩
  have:=(bulkAll_get ds).2 i (by omega)
  simp only [Rows.uptoBulk]; omega
theorem wfS_wt {wf:Instr→DataW H→Prop} (hw:∀ x d,wf x d→wtI x≤6 * Rows.uptoBulk d) {l:List Instr} {d:DataW H} (h:wfS wf l d):wtL l≤6 * Rows.uptoBulk d:=by
 rcases h.2 with ⟨rfl,rfl⟩ | ⟨ds,rest,rfl,h1,h2⟩
 ·simp [wtL,Rows.uptoBulk]
 ·have key:∀ (l:List Instr) (ds:List (DataW H)),ds.length=l.length→(∀ i,i<l.length→wf (l.getD i default) (ds.getD i .nil))→wtL l≤1+6 * Rows.uptoBulkAll ds:=by
   intro l
   induction l with
   | nil => intro ds _ _; simp only [wtL]; omega
   | cons x l ih => 
    intro ds hl hh
    cases ds with
    | nil => simp at hl
    | cons d ds => 
     have h0:=hw _ _ (hh 0 (by simp))
     have h3:=ih ds (by simpa using hl) (fun i hi => by simpa using hh (i+1) (by simpa using hi))
     simp only [List.getD_cons_zero] at h0
     simp only [wtL,Rows.uptoBulkAll]; omega
  have:=key l ds h1 h2
  simp only [Rows.uptoBulk]; omega
theorem wfS_IWL {wf:Instr→DataW H→Prop} (hw:∀ x d,wf x d→IWI x) {l:List Instr} {d:DataW H} (h:wfS wf l d):IWL l:=by
 have key:∀ (l:List Instr),(∀ x∈l,IWI x)→IWL l:=by
  intro l
  induction l with
  | nil => intro _; simp only [IWL]
  | cons x l ih => intro hh; simp only [IWL]; exact ⟨hh x List.mem_cons_self,ih fun y hy => hh y (List.mem_cons_of_mem _ hy)⟩
 exact key l fun x hx => by
  obtain ⟨d',h1,_⟩:=wfS_mem h hx
  exact hw x d' h1
theorem toA_sVI (L:List Instr):toA (sVI L)=toA (sV eInstr L):=by
 simp only [sVI,sV,toA]
 congr 1
 refine List.map_congr_left fun i hi => ?_
 rw [flI_eq (List.mem_range.1 hi)]
 rfl
def wfI (x:Instr) (d:DataW H):Prop:=IWI x∧wtI x≤6 * Rows.uptoBulk d
theorem rd2_instr {tI tL tB tN tU tLb:TypeId} {fs:Array Field} (hI:E.P.underlying tI=some (.struct fs)) (hL:E.P.underlying tL=some (.slice tI))
  (hfs:fs.toList.map (fun f => (f.type,f.offset))=[(tB,0),(tN,1),(tU,2),(tU,3),(tB,4),(tL,5),(tL,6),(tLb,7)])
  (hB:E.P.underlying tB=some (.int .u8)) (hN:E.P.underlying tN=some (.int .i64)) (hU:E.P.underlying tU=some (.int .u32)) (hLb:E.P.underlying tLb=some (.slice tU))
  (cB:E.P.cellsOf tB=1) (cN:E.P.cellsOf tN=1) (cU:E.P.cellsOf tU=1) (cL:E.P.cellsOf tL=1) (cLb:E.P.cellsOf tLb=1) (cI:E.P.cellsOf tI=8) :
  ∀ n,Rd2 enc E W tI eInstr wfI n:=by
 intro n
 induction n using Nat.strongRecOn with
 | _ n ih => 
 intro base sp hd cs x hx
 obtain ⟨xs,m,rfl,rfl,hlen,hsz,hf⟩:=DataW.trod_struct hI hx
 have hfl:fs.size=8:=by have:=congrArg List.length hfs; simpa using this
 have fget:∀ (i:Nat) (t:TypeId) (o:Nat),[(tB,0),(tN,1),(tU,2),(tU,3),(tB,4),(tL,5),(tL,6),(tLb,7)][i]? = some (t,o)→DataW.trod enc E.P W base sp hd m t ((cs.drop o).take (E.P.cellsOf t))=xs[i]?:=by
  intro i t o h
  rw [← hfs,List.getElem?_map] at h
  cases hfi:fs.toList[i]? with
  | none => rw [hfi] at h; cases h
  | some f => 
   rw [hfi] at h
   obtain ⟨rfl,rfl⟩:=Prod.mk.inj (Option.some.inj h)
   exact hf i f (by rw [← Array.getElem?_toList]; exact hfi)
 obtain ⟨x0,x1,x2,x3,x4,x5,x6,x7,rfl⟩:∃ x0 x1 x2 x3 x4 x5 x6 x7,xs=[x0,x1,x2,x3,x4,x5,x6,x7]:=by
  have:xs.length=8:=by omega
  match xs,this with
  | [x0,x1,x2,x3,x4,x5,x6,x7],_ => exact ⟨x0,x1,x2,x3,x4,x5,x6,x7,rfl⟩
 obtain ⟨v0,v1,v2,v3,v4,v5,v6,v7,rfl⟩:∃ v0 v1 v2 v3 v4 v5 v6 v7,cs=[v0,v1,v2,v3,v4,v5,v6,v7]:=by
  have:cs.length=8:=by omega
  match cs,this with
  | [v0,v1,v2,v3,v4,v5,v6,v7],_ => exact ⟨v0,v1,v2,v3,v4,v5,v6,v7,rfl⟩
 have g0:=fget 0 tB 0 rfl
 have g1:=fget 1 tN 1 rfl
 have g2:=fget 2 tU 2 rfl
 have g3:=fget 3 tU 3 rfl
 have g4:=fget 4 tB 4 rfl
 have g5:=fget 5 tL 5 rfl
 have g6:=fget 6 tL 6 rfl
 have g7:=fget 7 tLb 7 rfl
 rw [cB] at g0 g4
 rw [cN] at g1
 rw [cU] at g2 g3
 rw [cL] at g5 g6
 rw [cLb] at g7
 have rL:Rd2 enc E W tL (fun l:List Instr => [sV eInstr l]) (wfS wfI) m:=by
  cases m with
  | zero => exact Rd2.zero
  | succ q => exact rd2_slice hL (by rw [cI]; decide) (fun a => by rw [cI]; rfl) (fun a v hv => by
    simp only [eInstr,List.mem_cons,List.not_mem_nil,or_false] at hv
    rcases hv with rfl | rfl | rfl | rfl | rfl | rfl | rfl | rfl <;> rfl) q (ih q (by omega))
 have rLb:Rd2 enc E W tLb (fun l:List Int => [sV (eI .u32) l]) (wfS fun x d => (Lit.int .u32 x).wf=true) m:=by
  cases m with
  | zero => exact Rd2.zero
  | succ q => 
   exact rd2_slice (en:=eI .u32) (wf:=fun x d => (Lit.int .u32 x).wf=true) hLb (by rw [cU]; decide) (fun a => by rw [cU]; rfl) (fun a v hv => by
    obtain rfl:v=.int .u32 a:=by simpa [eI] using hv
    rfl) q (rd2_int hU q)
 obtain ⟨a0,w0,_,r0⟩:=rd2_int (enc:=enc) (W:=W) hB m base sp hd _ _ g0
 obtain ⟨a1,w1,_,r1⟩:=rd2_int (enc:=enc) (W:=W) hN m base sp hd _ _ g1
 obtain ⟨a2,w2,_,r2⟩:=rd2_int (enc:=enc) (W:=W) hU m base sp hd _ _ g2
 obtain ⟨a3,w3,_,r3⟩:=rd2_int (enc:=enc) (W:=W) hU m base sp hd _ _ g3
 obtain ⟨a4,w4,_,r4⟩:=rd2_int (enc:=enc) (W:=W) hB m base sp hd _ _ g4
 obtain ⟨a5,w5,_,r5⟩:=rL base sp hd _ _ g5
 obtain ⟨a6,w6,_,r6⟩:=rL base sp hd _ _ g6
 obtain ⟨a7,w7,_,r7⟩:=rLb base sp hd _ _ g7
 have b5:=wfS_wt (fun x d h => h.2) w5
 have b6:=wfS_wt (fun x d h => h.2) w6
 have i5:=wfS_IWL (fun x d h => h.1) w5
 have i6:=wfS_IWL (fun x d h => h.1) w6
 refine ⟨Instr.mk a0 a1 a2 a3 a4 a5 a6 a7,⟨?_,?_⟩,rfl,fun j hj => ?_⟩
 ·have q0:0≤a0∧a0<256:=by
   have h:IntKind.u8.min≤a0∧a0≤IntKind.u8.max:=by simpa [Lit.wf] using w0
   have e1:IntKind.u8.min=0:=by decide
   have e2:IntKind.u8.max=255:=by decide
   omega
  have q2:0≤a2:=by
   have h:IntKind.u32.min≤a2∧a2≤IntKind.u32.max:=by simpa [Lit.wf] using w2
   have e1:IntKind.u32.min=0:=by decide
   omega
  simp only [IWI]
  exact ⟨q0,q2,i5,i6⟩
 ·simp only [wtI,List.map_cons,List.map_nil,Rows.uptoBulk,Rows.uptoBulkAll]
  omega
 ·have hj':j<8:=hj
  have r5':=r5 0 Nat.zero_lt_one
  have r6':=r6 0 Nat.zero_lt_one
  match j,hj' with
  | 0,_ => exact r0 0 Nat.zero_lt_one
  | 1,_ => exact r1 0 Nat.zero_lt_one
  | 2,_ => exact r2 0 Nat.zero_lt_one
  | 3,_ => exact r3 0 Nat.zero_lt_one
  | 4,_ => exact r4 0 Nat.zero_lt_one
  | 5,_ => 
   show RVF E W.heap (old W) (toA (sVI a5)) _
   rw [toA_sVI]; exact r5'
  | 6,_ => 
   show RVF E W.heap (old W) (toA (sVI a6)) _
   rw [toA_sVI]; exact r6'
  | 7,_ => exact r7 0 Nat.zero_lt_one
end
end Go.Proofs.YtablleokoifolaaGreatDoor
set_option linter.unusedVariables false
set_option linter.unusedSimpArgs false
namespace Go.Proofs.YtablleokoifolaaGreatDoor.validBodies
open Go Go.ChangeShapes Go.WideShapes Go.RowKit
theorem c5:Tryz.prog.cellsOf 5=1:=by kernel_rfl
theorem c2:Tryz.prog.cellsOf 2=1:=by kernel_rfl
theorem c59:Tryz.prog.cellsOf 59=1:=by kernel_rfl
theorem c55:Tryz.prog.cellsOf 55=1:=by kernel_rfl
theorem c61:Tryz.prog.cellsOf 61=1:=by kernel_rfl
theorem c69:Tryz.prog.cellsOf 69=8:=by kernel_rfl
def T (t:TypeId):Prop:=t=54∨t=5∨t=55∨t=69∨t=2∨t=59∨t=61
theorem tyOk:TyOk Tryz.prog T:=by
 intro t ht
 rcases ht with rfl | rfl | rfl | rfl | rfl | rfl | rfl
 ·exact .inr (.inr (.inr (.inl ⟨5,Tryz.underlying54,.inr (.inl rfl),by rw [c5]; decide⟩)))
 ·exact .inr (.inl ⟨_,Tryz.underlying5⟩)
 ·exact .inr (.inr (.inr (.inl ⟨69,Tryz.underlying55,.inr (.inr (.inr (.inl rfl))),by rw [c69]; decide⟩)))
 ·refine .inr (.inr (.inr (.inr ⟨_,Tryz.underlying69,fun f hf => ?_⟩)))
  simp only [List.mem_cons,List.not_mem_nil,or_false] at hf
  rcases hf with rfl | rfl | rfl | rfl | rfl | rfl | rfl | rfl <;> simp [T]
 ·exact .inr (.inl ⟨_,Tryz.underlying2⟩)
 ·exact .inr (.inl ⟨_,Tryz.underlying59⟩)
 ·exact .inr (.inr (.inr (.inl ⟨59,Tryz.underlying61,.inr (.inr (.inr (.inr (.inr (.inl rfl))))),by rw [c59]; decide⟩)))
theorem rdI {H:Type} (enc:TypeId×Value→H) (W:World):∀ n,Rd2 enc E W 55 (fun l:List Instr => [sV eInstr l]) (wfS wfI) n
 | 0 => Rd2.zero
 | n+1 => rd2_slice (E:=E) (en:=eInstr) (wf:=wfI) Tryz.underlying55 (by show 0<Tryz.prog.cellsOf 69; rw [c69]; decide) (fun a => by show 8=Tryz.prog.cellsOf 69; rw [c69]) (fun a v hv => by
   simp only [eInstr,List.mem_cons,List.not_mem_nil,or_false] at hv
   rcases hv with rfl | rfl | rfl | rfl | rfl | rfl | rfl | rfl <;> rfl) n
   (rd2_instr (E:=E) Tryz.underlying69 Tryz.underlying55 rfl Tryz.underlying5 Tryz.underlying2 Tryz.underlying59 Tryz.underlying61 c5 c2 c59 c55 c61 c69 n)
theorem rdB {H:Type} (enc:TypeId×Value→H) (W:World):∀ n,Rd2 enc E W 54 (fun l:List Int => [sV (eI .u8) l]) (wfS fun x d => (Lit.int .u8 x).wf=true) n
 | 0 => Rd2.zero
 | n+1 => rd2_slice (E:=E) (en:=eI .u8) (wf:=fun x d => (Lit.int .u8 x).wf=true) Tryz.underlying54 (by show 0<Tryz.prog.cellsOf 5; rw [c5]; decide) (fun a => by show 1=Tryz.prog.cellsOf 5; rw [c5]) (fun a v hv => by
   obtain rfl:v=.int .u8 a:=by simpa [eI] using hv
   rfl) n (rd2_int (E:=E) Tryz.underlying5 n)
set_option maxRecDepth 100000 in
theorem contract (H:Type) (enc:TypeId×Value→H) (W:World) (base:Nat) (args:Array Value) (ds gs:List (DataW H)) (before:List MemPlace)
  (hval:∀ (j:Nat) t v,Tryz.f4.params[j]? = some t→args[j]? = some v→Value.okWide Tryz.prog W .any base t v)
  (hW:DataW.Whole enc Tryz.prog Tryz.f4.params.toList Rows.validBodiesSpec.vars false W args.toList ds gs before) (hcond:Rows.uptoSmall H (ds++gs)=true) (hL:laidMetH Tryz.prog laidE W) (hS:W.ShapedOpen Tryz.prog) :
  Calls Tryz.prog 4 args W fun e W' => ∃ v,e=.returned v∧Rows.validBodiesSpec.post enc Tryz.prog Tryz.f4 false true false false W args v W':=by
 have hW':=hW
 obtain ⟨p,q,hA0,hV,rfl,hfz,hnd⟩:=hW
 have hA:DataW.TrodAll enc Tryz.prog W 0 (fun _ => true) true Tryz.f4.params.toList args.toList ds p:=hA0
 rw [Tryz.params4] at hA hval
 obtain ⟨v0,vs0,d0,ds0,p0,q0,hargs,rfl,rfl,⟨n0,h0⟩,r0⟩:=trodAll_cons hA
 obtain ⟨v1,vs1,d1,ds1,p1,q1,rfl,rfl,rfl,h1,r1⟩:=trodAll_cons r0
 obtain ⟨v2,vs2,d2,ds2,p2,q2,rfl,rfl,rfl,⟨n2,h2⟩,r2⟩:=trodAll_cons r1
 obtain ⟨rfl,rfl,rfl⟩:=trodAll_nil r2
 obtain rfl:args = #[v0,v1,v2]:=by cases args; simp_all
 obtain ⟨rfl,rfl⟩:=trodVars_none hV
 obtain ⟨x1,rfl,rfl,rfl,w1⟩:=open_int Tryz.underlying5 (hval 1 5 v1 rfl rfl) h1
 obtain ⟨a0,len0,cap0,rfl⟩:=okWide_slice Tryz.underlying54 (hval 0 54 v0 rfl rfl)
 obtain ⟨a2,len2,cap2,rfl⟩:=okWide_slice Tryz.underlying55 (hval 2 55 v2 rfl rfl)
 obtain ⟨ps,f0,_,l0⟩:=rdB enc W n0 0 _ _ _ _ h0
 obtain ⟨b,f2,_,l2⟩:=rdI enc W n2 0 _ _ _ _ h2
 have l0':=l0 0 Nat.zero_lt_one
 have l2':RVF E W.heap (old W) (toA (sVI b)) (.slice a2 len2 cap2):=by
  rw [toA_sVI]
  exact l2 0 Nat.zero_lt_one
 have g0:=wfS_len f0
 have g2:=wfS_wt (fun x d h => h.2) f2
 have gw:=wfS_IWL (fun x d h => h.1) f2
 have hb:Rows.uptoBulkAll [d0,.lit (.int .u8 x1),d2]≤1048576:=of_decide_eq_true hcond
 simp only [Rows.uptoBulkAll,Rows.uptoBulk] at hb
 have g0':ps.length≤Rows.uptoBulk d0:=g0
 have g2':wtL b≤6 * Rows.uptoBulk d2:=g2
 have ht:=zzy ps x1 b 1048700 10000000 gw (by omega) (by omega) (by omega) (by omega)
 obtain ⟨g1,g3⟩:=zCz hL hS
 have hc:=zlW 10000000 ps x1 b true ht
 refine (hc.2 W (old W) #[.slice a0 len0 cap0,.int .u8 x1,.slice a2 len2 cap2] g3 g1 (fun b hb => hb) rfl (fun i hi => ?_)).mono ?_
 ·match i with
  | 0 => exact l0'
  | 1 => exact .int .u8 x1
  | 2 => exact l2'
 rintro e W' ⟨v,F',rfl,k⟩
 obtain rfl:=zBu k.rv
 refine ⟨_,rfl,_,_,_,[],p0++([]++(p2++[])),[],hW',trodAll_cons_mk (shut_bool Tryz.underlying4 _) trodAll_mk0,?_,rfl,zyD k.same k.wx.os k.wx.output _,fun h => by cases h⟩
 refine trodAll_ext tyOk k.same _ _ _ _ (fun t ht => ?_) hA0 fun p hp => ?_
 ·rw [Tryz.params4] at ht
  have:t=54∨t=5∨t=55:=by simpa using ht
  rcases this with h | h | h
  ·exact .inl h
  ·exact .inr (.inl h)
  ·exact .inr (.inr (.inl h))
 ·have:=hW'.lt p (by simpa using hp)
  simpa using this
theorem reads (os:Os) {H:Type} (enc:TypeId×Value→H):∃ places,DataW.whole enc Tryz.prog ((laidWorld os).forCall (fun _ _ => 0) ⟨#[],#[.slice none 0 0,.int .u8 0,.slice none 0 0],[]⟩).memory Tryz.f4.params.toList Rows.validBodiesSpec.vars false #[Value.slice none 0 0,Value.int .u8 0,Value.slice none 0 0].toList 8=some ([.nil,.lit (.int .u8 0),.nil],[],places):=
 ⟨[],by kernel_rfl⟩
set_option maxRecDepth 100000 in
theorem lifted (os:Os) (started:os.Started) (H:Type) (enc:TypeId×Value→H) (F:Stop.Interp) :
  ReturnsInHanded {} Tryz.checked os 4 .any ((Rows.OpenSpec.upto Rows.validBodiesSpec).preRow enc Tryz.prog Tryz.f4 Rows.validBodiesUptoRow.domain false Rows.validBodiesUptoRow.laid) (((Rows.OpenSpec.upto Rows.validBodiesSpec).at F).post enc Tryz.prog Tryz.f4 false true false false):=by
 obtain ⟨places,hx⟩:=reads os enc
 refine returnsInHanded_of_row (C:=Tryz.checked) (s:=Rows.OpenSpec.upto Rows.validBodiesSpec) own started (by kernel_rfl) Tryz.func4
  (witness_row_at (enc:=enc) (C:=Tryz.checked) false (laidWorld os) #[.slice none 0 0,.int .u8 0,.slice none 0 0] rfl (by kernel_rfl) (by kernel_rfl) (by kernel_rfl)
   (OpenSpec.preRow_of_cond 8 hx (by kernel_rfl) (fun k hk => by cases hk; kernel_rfl) (by kernel_rfl) (laidWorld_met os _))) ?_
 intro W base args ds gs before hval hW _ hcond _ hL hS _
 exact contract H enc W base args ds gs before hval hW (hcond _ rfl) hL hS
theorem said:Rows.ValidBodiesUptoSaid:=
 OpenClaim.holds_of_cond 4 Tryz.f4 rfl rfl rfl rfl rfl rfl rfl ⟨rfl,rfl,rfl,rfl,rfl⟩ rfl rfl rfl rfl rfl (by kernel_rfl) Tryz.func4 (by kernel_rfl)
  (of_decide_eq_true (by kernel_rfl)) (by unfold Func.isWrapper; first | (rw [if_pos (by decide +kernel)]; kernel_rfl) | (rw [if_neg (by decide +kernel)]; exact ⟨rfl,rfl⟩))
  (fun os started H enc _ F => by rw [OpenClaim.pre_eq_preRow]; exact lifted os started H enc F)
theorem plain (f:FuncId) (fn:Func) (hf:Tryz.pinned.checked.prog.funcNamed "mandrel/mandrellaw08.ValidBodies" = some f) (hfn:Tryz.pinned.checked.prog.funcs[f]? = some fn) :
  true=Tryz.pinned.checked.prog.looks []∧∀ (j:Nat) t,fn.params[j]? = some t→Tryz.pinned.checked.prog.wantsStandIn t=false:=by
 obtain rfl:f=4:=Option.some.inj ((show Tryz.prog.funcNamed "mandrel/mandrellaw08.ValidBodies" = some 4 by kernel_rfl).symm.trans hf) |>.symm
 obtain rfl:fn=Tryz.f4:=(Option.some.inj (Tryz.func4.symm.trans hfn)).symm
 refine ⟨by kernel_rfl,fun j t ht => ?_⟩
 rw [Tryz.params4] at ht
 have:t=54∨t=5∨t=55:=by simpa using Array.mem_of_getElem? ht
 rcases this with rfl | rfl | rfl
 ·exact (show Tryz.prog.wantsStandIn 54=false by kernel_rfl)
 ·exact (show Tryz.prog.wantsStandIn 5=false by kernel_rfl)
 ·exact (show Tryz.prog.wantsStandIn 55=false by kernel_rfl)
theorem card:Rows.ValidBodiesUptoCardSaid:=
 Claim7.holds_tied_plain_at .later [] [.handle] true _ true said (fun _ h => by cases h) (by kernel_rfl) (fun _ h => by cases h) validBodiesUpto_row_tie rfl ⟨rfl,rfl⟩ (by kernel_rfl) rfl plain (by kernel_rfl)
end Go.Proofs.YtablleokoifolaaGreatDoor.validBodies
