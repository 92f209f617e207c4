/- Part 2 of the proof that ValidOuterUptoCardSaid: for every input that fits the row the law answers true and its arguments read as before, over the world as the row lays it. -/
import Derived.Test.YtablleokoifolaaGreatDoorZ1
import Derived.Test.YtablleokoifolaaGreatDoorProg
set_option linter.unusedVariables false
set_option linter.unusedSimpArgs false
namespace Go.Proofs.YtablleokoifolaaGreatDoor
open Go Go.RowKit
variable {W:Nat→Nat→Nat→Prop} {E:Env} {base:Nat}
def usesX:AX→List Nat
 | .t i => [i]
 | _ => []
def usesOX:Option AX→List Nat
 | some x => usesX x
 | none => []
def usesXO:XOp→List Nat
 | .cap _ x | .pan x => usesX x
 | .appZ _ _ _ _ _ s n => usesX s++usesX n
 | .mkmap _ _ => []
 | .mlook _ _ m key => usesX m++usesX key
 | .mset _ m key v => usesX m++(usesX key++usesX v)
def usesO:AOp→List Nat
 | .x o => usesXO o
 | .mov x | .asg x | .box _ _ x | .nilchk x | .un _ x | .convi _ _ _ x | .mkif _ x | .fld _ _ _ _ _ x | .faddr _ _ _ x | .lenS _ x | .len _ x | .ext x _ | .load _ _ _ x => usesX x
 | .pick c a b => usesX c++(usesX a++usesX b)
 | .alloc _ _ _ => []
 | .build _ _ ps => ps.flatMap fun p => usesX p.2.2.2
 | .bslice _ _ _ _ ps | .bslv _ _ _ _ ps => ps.flatMap fun p => usesX p.2
 | .store _ _ a x | .bin _ _ _ a x | .iaddr _ _ a x | .iaddrA _ _ _ a x | .idxA _ _ _ _ a x | .idxS _ a x | .app _ _ _ _ a x | .appN _ _ _ _ a x | .mm _ _ _ a x => usesX a++usesX x
 | .mkfn _ xs | .callp _ xs | .calls _ xs => xs.flatMap usesX
 | .slcS _ x lo hi | .slc _ _ x lo hi => usesX x++(usesOX lo++usesOX hi)
 | .callv g xs => usesX g++xs.flatMap usesX
def hclass:AOp→Nat
 | .x (.cap ..) | .x (.pan ..) => 0
 | .x _ => 4
 | .load .. | .iaddr .. | .slc .. => 1
 | .alloc .. | .box .. | .bslice .. | .appN .. => 2
 | .store .. | .app .. => 3
 | .calls .. => 4
 | _ => 0
theorem evX_congr {t t':Nat→AV} {x:AX} (hx:∀ i∈usesX x,t i=t' i):evX t x=evX t' x:=by
 cases x with
 | t i => exact hx i (by simp [usesX])
 | _ => rfl
theorem evOX_congr {t t':Nat→AV} {x:Option AX} (hx:∀ i∈usesOX x,t i=t' i):x.map (evX t)=x.map (evX t'):=by
 cases x with
 | none => rfl
 | some x => simp only [Option.map_some]; rw [evX_congr (by simpa [usesOX] using hx)]
theorem evL_congr {α:Type} {t t':Nat→AV} {xs:List α} {g:α→AX} (hx:∀ i∈xs.flatMap (fun p => usesX (g p)),t i=t' i):∀ p∈xs,evX t (g p)=evX t' (g p):=
 fun p hp => evX_congr fun i hi => hx i (List.mem_flatMap.2 ⟨p,hp,hi⟩)
theorem zvY {t t':Nat→AV} {h:Hp} {op:XOp} (hu:∀ i∈usesXO op,t i=t' i):xval base t h op=xval base t' h op:=by
 cases op <;> simp only [usesXO,List.mem_append] at hu <;> simp only [xval]
 ·rw [evX_congr hu]
 ·rename_i k c ci b zs s n
  rw [evX_congr (x:=s) (fun i hi => hu i (.inl hi)),evX_congr (x:=n) (fun i hi => hu i (.inr hi))]
 ·rename_i c z m key
  rw [evX_congr (x:=m) (fun i hi => hu i (.inl hi)),evX_congr (x:=key) (fun i hi => hu i (.inr hi))]
 ·rename_i c m key v
  rw [evX_congr (x:=m) (fun i hi => hu i (.inl hi)),evX_congr (x:=key) (fun i hi => hu i (.inr (.inl hi))),evX_congr (x:=v) (fun i hi => hu i (.inr (.inr hi)))]
theorem zwq {t t':Nat→AV} {h:Hp} {op:AOp} (hu:∀ i∈usesO op,t i=t' i):aval base t h op=aval base t' h op:=by
 cases op <;> simp only [usesO,List.mem_append] at hu
 case x o => exact zvY hu
 all_goals first
  | rfl
  | (simp only [aval]; rw [evX_congr hu])
  | (rename_i a x; simp only [aval]; rw [evX_congr (x:=a) (fun i hi => hu i (.inl hi)),evX_congr (x:=x) (fun i hi => hu i (.inr hi))])
  | skip
 ·rename_i c a b
  simp only [aval]
  rw [evX_congr (x:=c) (fun i hi => hu i (.inl hi)),evX_congr (x:=a) (fun i hi => hu i (.inr (.inl hi))),evX_congr (x:=b) (fun i hi => hu i (.inr (.inr hi)))]
 ·rename_i c zs ps
  simp only [aval]
  rw [List.map_congr_left (fun p hp => by rw [evL_congr (g:=fun p:Nat×Nat×Nat×AX => p.2.2.2) hu p hp])]
 ·rename_i k c zs n ps
  simp only [aval]
  rw [List.map_congr_left (fun p hp => by rw [evL_congr (g:=fun p:Nat×AX => p.2) hu p hp])]
 ·rename_i f xs
  simp only [aval]
  rw [List.map_congr_left (fun p hp => evL_congr (g:=fun p:AX => p) hu p hp)]
 ·rename_i c x lo hi
  simp only [aval]
  rw [evX_congr (x:=x) (fun i h => hu i (.inl h)),evOX_congr (x:=lo) (fun i h => hu i (.inr (.inl h))),evOX_congr (x:=hi) (fun i h => hu i (.inr (.inr h)))]
 ·rename_i c e x lo hi
  simp only [aval]
  rw [evX_congr (x:=x) (fun i h => hu i (.inl h)),evOX_congr (x:=lo) (fun i h => hu i (.inr (.inl h))),evOX_congr (x:=hi) (fun i h => hu i (.inr (.inr h)))]
def AV1 (E:Env) (base:Nat) (W:Nat→Nat→Nat→Prop) (o:AOp) (t:Nat→AV) (h:Hp) (v:AV) (h':Hp):Prop:=
 match o with
 | .callp f args => h'=h∧∃ args',frzL h (args.map (evX t))=some args'∧ACallP E f args' v∧frzKL h (args.map (evX t))=[]
 | .callv g args => h'=h∧∃ f caps args',evX t g=.func f caps∧frzL h (args.map (evX t)++caps)=some args'∧ACallP E f args' v∧frzKL h (args.map (evX t)++caps)=[]
 | .calls _ _ => False
 | .bslv _ _ zs n ps => h'=h∧∃ es,afillE zs.length (List.replicate n zs) (ps.map fun p => (p.1,evX t p.2))=some es∧es.all (fun c => c.all kf0)=true∧v=.slv (es.map fun c => c.map nz)
 | op => aval base t h op=some (v,h')∧rdOk base W t op
theorem roAll_nil (h:Hp):roAll [] h=h:=by funext κ; simp [roAll]
def AW1' (E:Env) (base:Nat) (W:Nat→Nat→Nat→Prop) (o:AOper) (K:St→Prop) (s:St):Prop:=
 match wantA o.guard s.t with
 | none => False
 | some false => K ⟨putT o.dst s.t .hole,s.h,s.n⟩
 | some true => ∃ v h',AV1 E base W o.op s.t s.h v h'∧K ⟨putT o.dst s.t v,h',s.n⟩
theorem AW1_to {o:AOper} {K:St→Prop} {s:St} (h:AW1 E true base W o K s):AW1' E base W o K s:=by
 unfold AW1 at h
 unfold AW1'
 split at h
 ·exact h.elim
 ·rename_i hw; rw [hw]; exact h
 ·rename_i hw
  rw [hw]
  simp only
  split at h
  ·rename_i f args hop
   obtain ⟨args',r,g1,g2,g3,g4⟩:=h
   refine ⟨r,s.h,?_,by rw [g3 rfl,roAll_nil] at g4; exact g4⟩
   rw [hop]; exact ⟨rfl,args',g1,g2,g3 rfl⟩
  ·rename_i g args hop
   obtain ⟨f,caps,args',r,e1,g1,g2,g3,g4⟩:=h
   refine ⟨r,s.h,?_,by rw [g3 rfl,roAll_nil] at g4; exact g4⟩
   rw [hop]; exact ⟨rfl,f,caps,args',e1,g1,g2,g3 rfl⟩
  ·exact absurd h.1 (by simp)
  ·rename_i k c zs n ps hop
   obtain ⟨es,g1,g2,g3⟩:=h
   refine ⟨_,s.h,?_,g3⟩
   rw [hop]; exact ⟨rfl,es,g1,g2,rfl⟩
  ·rename_i n1 n2 n3 n4
   obtain ⟨v,h',g1,g2,g3⟩:=h
   refine ⟨v,h',?_,g3⟩
   unfold AV1
   split
   ·rename_i f args hop; exact absurd hop (n1 f args)
   ·rename_i f args hop; exact absurd hop (n2 f args)
   ·rename_i f args hop; exact absurd hop (n3 f args)
   ·rename_i a b c d e hop; exact absurd hop (n4 a b c d e)
   ·exact ⟨g1,g2 rfl⟩
theorem AW1_of {o:AOper} {K:St→Prop} {s:St} (h:AW1' E base W o K s):AW1 E true base W o K s:=by
 unfold AW1' at h
 unfold AW1
 split at h
 ·exact h.elim
 ·rename_i hw; rw [hw]; exact h
 ·rename_i hw
  rw [hw]
  simp only
  obtain ⟨v,h',g,hK⟩:=h
  unfold AV1 at g
  split at g
  ·rename_i f args hop
   rw [hop]
   obtain ⟨rfl,args',g1,g2,g3⟩:=g
   exact ⟨args',v,g1,g2,fun _ => g3,by rw [g3,roAll_nil]; exact hK⟩
  ·rename_i f args hop
   rw [hop]
   obtain ⟨rfl,f,caps,args',e1,g1,g2,g3⟩:=g
   exact ⟨f,caps,args',v,e1,g1,g2,fun _ => g3,by rw [g3,roAll_nil]; exact hK⟩
  ·exact g.elim
  ·rename_i k c zs n ps hop
   rw [hop]
   obtain ⟨rfl,es,g1,g2,rfl⟩:=g
   exact ⟨es,g1,g2,hK⟩
  ·rename_i n1 n2 n3 n4
   split
   ·rename_i f args hop; exact absurd hop (n1 f args)
   ·rename_i f args hop; exact absurd hop (n2 f args)
   ·rename_i f args hop; exact absurd hop (n3 f args)
   ·rename_i a b c d e hop; exact absurd hop (n4 a b c d e)
   ·exact ⟨v,h',g.1,fun _ => g.2,hK⟩
theorem AW1'_mono {o:AOper} {K K':St→Prop} {s:St} (hk:∀ s,K s→K' s) (h:AW1' E base W o K s):AW1' E base W o K' s:=by
 unfold AW1' at h ⊢
 split at h
 ·exact h.elim
 ·exact hk _ h
 ·obtain ⟨v,h',g1,g2⟩:=h
  exact ⟨v,h',g1,hk _ g2⟩
theorem rdOk_congr {t t':Nat→AV} {op:AOp} (hu:∀ i∈usesO op,t i=t' i) (h:rdOk base W t op):rdOk base W t' op:=by
 cases op <;> simp only [usesO,List.mem_append] at hu <;> simp only [rdOk] at h ⊢
 ·rw [← evX_congr hu]; exact h
 ·rw [← evX_congr (fun i hi => hu i (.inl hi))]; exact h
 ·rw [← evX_congr (fun i hi => hu i (.inl hi))]; exact h
 ·rw [← evX_congr (fun i hi => hu i (.inl hi))]; exact h
 ·rw [← evX_congr (fun i hi => hu i (.inr hi))]; exact h
theorem AV1_congr {t t':Nat→AV} {h h':Hp} {v:AV} {op:AOp} (hu:∀ i∈usesO op,t i=t' i) (hv:AV1 E base W op t h v h'):AV1 E base W op t' h v h':=by
 unfold AV1 at hv ⊢
 split at hv
 ·rename_i f args
  have e:args.map (evX t)=args.map (evX t'):=List.map_congr_left (evL_congr (g:=fun p:AX => p) hu)
  rw [← e]; exact hv
 ·rename_i g args
  simp only [usesO,List.mem_append] at hu
  have e:args.map (evX t)=args.map (evX t'):=List.map_congr_left (evL_congr (g:=fun p:AX => p) (fun i hi => hu i (.inr hi)))
  rw [← e,← evX_congr (fun i hi => hu i (.inl hi))]; exact hv
 ·exact hv
 ·rename_i k c zs n ps
  have e:ps.map (fun p => (p.1,evX t p.2))=ps.map (fun p => (p.1,evX t' p.2)):=List.map_congr_left (fun p hp => by rw [evL_congr (g:=fun p:Nat×AX => p.2) hu p hp])
  rw [← e]; exact hv
 ·exact ⟨by rw [← zwq hu]; exact hv.1,rdOk_congr hu hv.2⟩
theorem zvj {h:Hp} (h2:Hp):∀ (k:Nat) {x y:AV},frz h k x=some y→frzK h k x=[]→frz h2 k x=some y∧frzK h2 k x=[]
 | 0,x,y,hx,_ => by cases hx
 | k+1,x,y,hx,hk => by
  have cells:∀ (cs cs':List AV),cs.mapM (frz h k)=some cs'→cs.flatMap (frzK h k)=[]→cs.mapM (frz h2 k)=some cs'∧cs.flatMap (frzK h2 k)=[]:=by
   intro cs
   induction cs with
   | nil => intro cs' hm _; exact ⟨hm,rfl⟩
   | cons c cs ih => 
    intro cs' hm hkk
    simp only [List.flatMap_cons,List.append_eq_nil_iff] at hkk
    simp only [List.mapM_cons,Option.bind_eq_bind,Option.bind_eq_some_iff,Option.pure_def,Option.some.injEq] at hm
    obtain ⟨b,hb,bs,hbs,rfl⟩:=hm
    obtain ⟨i1,i2⟩:=ih bs hbs hkk.2
    obtain ⟨j1,j2⟩:=zvj h2 k hb hkk.1
    exact ⟨by simp [List.mapM_cons,i1,j1],by simp [i2,j2]⟩
  cases x with
  | ptr κ i o => simp only [frzK] at hk; cases hk
  | sl κ lo n => simp only [frzK] at hk; cases hk
  | func f cs => 
   simp only [frz] at hx ⊢
   simp only [frzK] at hk ⊢
   obtain ⟨cs',hm,rfl⟩:=Option.map_eq_some_iff.1 hx
   obtain ⟨i1,i2⟩:=cells _ _ hm hk
   exact ⟨by rw [i1]; rfl,i2⟩
  | iface c x => 
   simp only [frz] at hx ⊢
   simp only [frzK] at hk ⊢
   obtain ⟨x',hm,rfl⟩:=Option.map_eq_some_iff.1 hx
   obtain ⟨i1,i2⟩:=zvj h2 k hm hk
   exact ⟨by rw [i1]; rfl,i2⟩
  | agg cs => 
   simp only [frz] at hx ⊢
   simp only [frzK] at hk ⊢
   obtain ⟨cs',hm,rfl⟩:=Option.map_eq_some_iff.1 hx
   obtain ⟨i1,i2⟩:=cells _ _ hm hk
   exact ⟨by rw [i1]; rfl,i2⟩
  | tup cs => 
   simp only [frz] at hx ⊢
   simp only [frzK] at hk ⊢
   obtain ⟨cs',hm,rfl⟩:=Option.map_eq_some_iff.1 hx
   obtain ⟨i1,i2⟩:=cells _ _ hm hk
   exact ⟨by rw [i1]; rfl,i2⟩
  | map κ => cases hx
  | _ => exact ⟨hx,hk⟩
theorem frzM_any {h:Hp} (h2:Hp) (k:Nat):∀ {l l':List AV},l.mapM (frz h k)=some l'→l.flatMap (frzK h k)=[]→l.mapM (frz h2 k)=some l'∧l.flatMap (frzK h2 k)=[]
 | [],l',hm,_ => ⟨hm,rfl⟩
 | c :: l,l',hm,hk => by
  simp only [List.flatMap_cons,List.append_eq_nil_iff] at hk
  simp only [List.mapM_cons,Option.bind_eq_bind,Option.bind_eq_some_iff,Option.pure_def,Option.some.injEq] at hm
  obtain ⟨b,hb,bs,hbs,rfl⟩:=hm
  obtain ⟨i1,i2⟩:=frzM_any h2 k (l:=l) hbs hk.2
  obtain ⟨j1,j2⟩:=zvj h2 k hb hk.1
  exact ⟨by simp [List.mapM_cons,i1,j1],by simp [i2,j2]⟩
theorem frzL_any {h:Hp} (h2:Hp) {l l':List AV} (hm:frzL h l=some l') (hk:frzKL h l=[]):frzL h2 l=some l'∧frzKL h2 l=[]:=frzM_any h2 FZ hm hk
theorem zuL {t:Nat→AV} {op:AOp} (hc:hclass op=0) (h h2:Hp):aval base t h2 op=(aval base t h op).map fun p => (p.1,h2):=by
 cases op <;> first | (simp [hclass] at hc; done) | rfl | skip
 case x o => 
  cases o <;> first | (simp [hclass] at hc; done) | rfl | skip
  rename_i c x
  simp only [aval,xval]
  generalize evX t x=a
  cases a <;> rfl
 all_goals simp only [aval]
 all_goals first
  | (rename_i x; generalize evX t x=a; cases a <;> rfl)
  | (rename_i c a b; generalize evX t c=q; cases q <;> rfl)
  | (rw [Option.map_map]; congr 1)
  | (rename_i x y; generalize evX t x=a; generalize evX t y=b; cases a <;> cases b <;> first | rfl | (simp only []; repeat' split) <;> first | rfl | (rw [Option.map_map]; congr 1))
  | (rename_i x; generalize evX t x=a; cases a <;> first | rfl | (simp only []; repeat' split) <;> first | rfl | (rw [Option.map_map]; congr 1))
  | (rename_i x i; generalize evX t x=a; cases a <;> first | rfl | (simp only []; repeat' split) <;> first | rfl | (rw [Option.map_map]; congr 1))
  | (rename_i x lo hi; generalize evX t x=a; cases a <;> first | rfl | (simp only []; repeat' split) <;> first | rfl | (rw [Option.map_map]; congr 1))
theorem AV1_free {t:Nat→AV} {h h':Hp} {v:AV} {op:AOp} (hc:hclass op=0) (hv:AV1 E base W op t h v h'):h'=h∧∀ h2,AV1 E base W op t h2 v h2:=by
 unfold AV1 at hv
 split at hv
 ·obtain ⟨rfl,args',g1,g2,g3⟩:=hv
  refine ⟨rfl,fun h2 => ?_⟩
  obtain ⟨k1,k2⟩:=frzL_any h2 g1 g3
  exact ⟨rfl,args',k1,g2,k2⟩
 ·obtain ⟨rfl,f,caps,args',e1,g1,g2,g3⟩:=hv
  refine ⟨rfl,fun h2 => ?_⟩
  obtain ⟨k1,k2⟩:=frzL_any h2 g1 g3
  exact ⟨rfl,f,caps,args',e1,k1,g2,k2⟩
 ·exact hv.elim
 ·obtain ⟨rfl,es,g1,g2,g3⟩:=hv
  exact ⟨rfl,fun h2 => ⟨rfl,es,g1,g2,g3⟩⟩
 ·rename_i n1 n2 n3 n4
  obtain ⟨g1,g2⟩:=hv
  have key:h'=h∧∀ h2,aval base t h2 op=some (v,h2):=by
   have e:=zuL (base:=base) (t:=t) hc h h
   rw [g1] at e
   simp only [Option.map_some,Option.some.injEq,Prod.mk.injEq,true_and] at e
   exact ⟨e,fun h2 => by rw [zuL hc h h2,g1]; rfl⟩
  refine ⟨key.1,fun h2 => ?_⟩
  unfold AV1
  split
  ·exact absurd rfl (n1 _ _)
  ·exact absurd rfl (n2 _ _)
  ·exact absurd rfl (n3 _ _)
  ·exact absurd rfl (n4 _ _ _ _ _)
  ·exact ⟨key.2 h2,g2⟩
variable {W:Nat→Nat→Nat→Prop} {E:Env} {base:Nat}
theorem zwg {h:Hp} {p:AV} (hk:klt base p) {κ:Nat} (x:Option AObj) (hκ:base≤κ):pcells (upd h κ x) p=pcells h p:=by
 cases p <;> first | rfl | skip
 rename_i κ' i o
 have:κ'≠κ:=by simp only [klt] at hk; omega
 simp only [pcells,zaE _ _ _ this]
theorem AV1_read {t:Nat→AV} {h h':Hp} {v:AV} {op:AOp} (hc:hclass op=1) (hv:AV1 E base W op t h v h') :
  h'=h∧∀ κ x,base≤κ→AV1 E base W op t (upd h κ x) v (upd h κ x):=by
 cases op <;> first | (simp [hclass] at hc; done) | skip
 case x o => cases o <;> simp [hclass] at hc
 ·rename_i c ag n a
  obtain ⟨g1,g2⟩:=hv
  simp only [aval] at g1
  obtain ⟨u,hu,g1⟩:=Option.map_eq_some_iff.1 g1
  simp only [Prod.mk.injEq] at g1
  obtain ⟨rfl,rfl⟩:=g1
  refine ⟨rfl,fun κ x hκ => ⟨?_,g2⟩⟩
  have:aload (upd h κ x) ag n (evX t a)=some u:=by
   unfold aload at hu ⊢
   rw [zwg g2.1 x hκ]; exact hu
  simp only [aval,this,Option.map_some]
 ·rename_i c esz s i
  obtain ⟨g1,g2⟩:=hv
  simp only [aval] at g1
  obtain ⟨u,hu,g1⟩:=Option.map_eq_some_iff.1 g1
  simp only [Prod.mk.injEq] at g1
  obtain ⟨rfl,rfl⟩:=g1
  refine ⟨rfl,fun κ x hκ => ⟨?_,g2⟩⟩
  have:aiaddr (upd h κ x) esz (evX t s) (evX t i)=some u:=by
   simp only [rdOk] at g2
   generalize evX t s=a at *
   generalize evX t i=b at *
   cases a <;> first | exact hu | (cases b <;> exact hu) | skip
   rename_i κ' lo n
   have hne:κ'≠κ:=by simp only [klt] at g2; omega
   unfold aiaddr at hu ⊢
   cases b <;> first | exact hu | skip
   simp only [zaE _ _ _ hne]; exact hu
  simp only [aval,this,Option.map_some]
 ·rename_i c esz s lo hi
  obtain ⟨g1,g2⟩:=hv
  simp only [aval] at g1
  obtain ⟨u,hu,g1⟩:=Option.map_eq_some_iff.1 g1
  simp only [Prod.mk.injEq] at g1
  obtain ⟨rfl,rfl⟩:=g1
  refine ⟨rfl,fun κ x hκ => ⟨?_,g2⟩⟩
  have:aslc (upd h κ x) esz (evX t s) (lo.map (evX t)) (hi.map (evX t))=some u:=by
   simp only [rdOk] at g2
   generalize evX t s=a at *
   cases a <;> first | exact hu | skip
   rename_i κ' b n
   have hne:κ'≠κ:=by simp only [klt] at g2; omega
   unfold aslc at hu ⊢
   simp only [zaE _ _ _ hne]; exact hu
  simp only [aval,this,Option.map_some]
theorem AV1_create {t:Nat→AV} {h h':Hp} {v:AV} {op:AOp} (hc:hclass op=2) (hnn:∀ a b c d e f,op≠.appN a b c d e f) (hv:AV1 E base W op t h v h') :
  ∃ k x,koff op=some k∧h'=upd h (base+k) x∧∀ h2,AV1 E base W op t h2 v (upd h2 (base+k) x):=by
 cases op <;> first | (simp [hclass] at hc; done) | skip
 case x o => cases o <;> simp [hclass] at hc
 ·rename_i k c zs
  obtain ⟨g1,g2⟩:=hv
  simp only [aval,Option.some.injEq,Prod.mk.injEq] at g1
  obtain ⟨rfl,rfl⟩:=g1
  exact ⟨k,_,rfl,rfl,fun h2 => ⟨rfl,trivial⟩⟩
 ·rename_i k c x
  obtain ⟨g1,g2⟩:=hv
  simp only [aval,bval] at g1
  split at g1
  ·rename_i hcc
   simp only [Option.some.injEq,Prod.mk.injEq] at g1
   obtain ⟨rfl,rfl⟩:=g1
   exact ⟨k,_,rfl,rfl,fun h2 => ⟨by simp only [aval,bval,if_pos hcc],trivial⟩⟩
  ·cases g1
 ·rename_i k c zs n ps
  obtain ⟨g1,g2⟩:=hv
  simp only [aval] at g1
  obtain ⟨u,hu,g1⟩:=Option.map_eq_some_iff.1 g1
  simp only [Prod.mk.injEq] at g1
  obtain ⟨rfl,rfl⟩:=g1
  exact ⟨k,_,rfl,rfl,fun h2 => ⟨by simp only [aval,hu,Option.map_some],trivial⟩⟩
 ·exact absurd rfl (hnn _ _ _ _ _ _)
def appM (base:Nat) (m:Option (Nat×Option AObj)) (h:Hp):Hp:=match m with
 | none => h
 | some (k,x) => upd h (base+k) x
theorem ztd {h:Hp} {esz:Nat} {x:AV} (hk:klt base x) {κ:Nat} (y:Option AObj) (hκ:base≤κ):selems (upd h κ y) esz x=selems h esz x:=by
 cases x <;> first | rfl | skip
 rename_i κ' lo n
 have hne:κ'≠κ:=by simp only [klt] at hk; omega
 simp only [selems,zaE _ _ _ hne]
theorem AV1_rc {t:Nat→AV} {h h':Hp} {v:AV} {op:AOp} (hc:hclass op≤2) (hv:AV1 E base W op t h v h') :
  ∃ m,(∀ k x,m=some (k,x)→koff op=some k)∧h'=appM base m h∧∀ κ y,base≤κ→AV1 E base W op t (upd h κ y) v (appM base m (upd h κ y)):=by
 have h3:hclass op=0∨hclass op=1∨hclass op=2:=by omega
 rcases h3 with h0 | h1 | h2
 ·obtain ⟨rfl,f⟩:=AV1_free h0 hv
  exact ⟨none,fun k x e => (by cases e),rfl,fun κ y _ => f _⟩
 ·obtain ⟨rfl,f⟩:=AV1_read h1 hv
  exact ⟨none,fun k x e => (by cases e),rfl,fun κ y hκ => f κ y hκ⟩
 ·by_cases hn:∃ k c esz bytes s x,op=.appN k c esz bytes s x
  ·obtain ⟨k,c,esz,bytes,s,x,rfl⟩:=hn
   obtain ⟨g1,g2⟩:=hv
   simp only [aval] at g1
   split at g1
   ·rename_i es
    simp only [rdOk] at g2
    unfold aapp at g1
    split at g1
    ·cases g1
    ·rename_i xs hx
     simp only at g1
     split at g1
     ·rename_i hlim
      by_cases he:xs.isEmpty=true
      ·rw [if_pos he] at g1
       simp only [Option.some.injEq,Prod.mk.injEq] at g1
       obtain ⟨rfl,rfl⟩:=g1
       refine ⟨none,fun k x e => (by cases e),rfl,fun κ y hκ => ⟨?_,g2⟩⟩
       simp only [aval,es,aapp,ztd g2 y hκ,hx,if_pos hlim,if_pos he,appM]
      ·rw [if_neg he] at g1
       simp only [Option.some.injEq,Prod.mk.injEq] at g1
       obtain ⟨rfl,rfl⟩:=g1
       refine ⟨some (k,_),fun k x e => (by cases e; rfl),rfl,fun κ y hκ => ⟨?_,g2⟩⟩
       simp only [aval,es,aapp,ztd g2 y hκ,hx,if_pos hlim,if_neg he,appM]
     ·cases g1
   ·cases g1
  ·obtain ⟨k,x,hk,rfl,f⟩:=AV1_create h2 (fun a b c d e f e' => hn ⟨a,b,c,d,e,f,e'⟩) hv
   exact ⟨some (k,x),fun k' x' e => (by cases e; exact hk),rfl,fun κ y _ => f _⟩
def farStore:AOp→Bool
 | .store c _ _ _ => far c
 | _ => false
def farOk:AOp→Bool
 | .alloc .. | .box .. | .bslice .. | .iaddr .. | .slc .. => true
 | .load c _ _ _ => far c
 | _ => false
theorem zog {α:Type} {f:Nat→α} {k k':Nat} {x y:α} (hne:k≠k'):upd (upd f k x) k' y=upd (upd f k' y) k x:=by
 funext i
 simp only [upd]
 by_cases h1:i=k
 ·subst h1; simp [hne]
 ·simp [h1]
theorem zuH {t:Nat→AV} {h h':Hp} {v:AV} {op:AOp} (hf:farStore op=true) (hv:AV1 E base W op t h v h') :
  ∃ κ i o n esz es new,κ<base∧(∀ q,o≤q→q<o+n→W κ i q)∧h κ=some (.row false esz es)∧o+n≤(es.getD i []).length∧new.length=n ∧
   h'=upd h κ (some (.row false esz (es.set i (splice (es.getD i []) o new)))) ∧
   ∀ h2,h2 κ=h κ→AV1 E base W op t h2 v (upd h2 κ (some (.row false esz (es.set i (splice (es.getD i []) o new))))):=by
 cases op <;> first | (simp [farStore] at hf; done) | skip
 rename_i c n a x
 obtain ⟨g1,g2⟩:=hv
 have hc:=g2 (by simpa [farStore] using hf)
 simp only [aval] at g1
 obtain ⟨u,hu,g1⟩:=Option.map_eq_some_iff.1 g1
 simp only [Prod.mk.injEq] at g1
 obtain ⟨rfl,rfl⟩:=g1
 have hu':=hu
 unfold astore at hu
 split at hu
 ·rename_i κ i o hp
  rw [hp] at hc
  split at hu
  ·rename_i esz es hκ
   split at hu
   ·rename_i hcond
    obtain rfl:=Option.some.inj hu
    refine ⟨κ,i,o,n,esz,es,cellsL (evX t x),hc.1,hc.2,hκ,hcond.2.1,hcond.2.2.1,rfl,fun h2 h2κ => ⟨?_,g2⟩⟩
    simp only [aval,astore,hp,h2κ,hκ,if_pos hcond,Option.map_some]
   ·cases hu
  ·cases hu
 ·cases hu
theorem zvL {t:Nat→AV} {h:Hp} {v:AV} {op:AOp} (hf:farOk op=true) (h1:hclass op=1) {κ i o n esz:Nat} {es:List (List AV)} {new:List AV}
  (hW:∀ q,o≤q→q<o+n→W κ i q) (hκ:h κ=some (.row false esz es)) (hl:o+n≤(es.getD i []).length) (hn:new.length=n) :
  AV1 E base W op t h v h↔AV1 E base W op t (upd h κ (some (.row false esz (es.set i (splice (es.getD i []) o new))))) v (upd h κ (some (.row false esz (es.set i (splice (es.getD i []) o new))))):=by
 generalize hg:upd h κ (some (.row false esz (es.set i (splice (es.getD i []) o new))))=g
 have gk:g κ=some (.row false esz (es.set i (splice (es.getD i []) o new))):=by rw [← hg,zam]
 have gn:∀ κ',κ'≠κ→g κ'=h κ':=fun κ' hne => by rw [← hg,zaE _ _ _ hne]
 cases op <;> first | (simp [hclass] at h1; done) | (simp [farOk] at hf; done) | skip
 ·rename_i c ag m a
  have hfar:far c=true:=by simpa [farOk] using hf
  simp only [AV1,aval]
  have key:∀ hr:rdOk base W t (.load c ag m a),aload g ag m (evX t a)=aload h ag m (evX t a):=by
   intro hr
   have hout:=hr.2 hfar
   generalize evX t a=p at hout
   cases p <;> first | rfl | skip
   rename_i κ' i' o'
   by_cases hk:κ'=κ
   ·subst hk
    simp only [aload,pcells,gk,hκ,List.length_set]
    by_cases hi':i'<es.length
    ·simp only [if_pos hi']
     by_cases hii:i'=i
     ·subst hii
      have e1:(es.set i' (splice (es.getD i' []) o new)).getD i' []=splice (es.getD i' []) o new:=by simp [List.getD_eq_getElem?_getD,hi']
      rw [e1]
      have hl':o+new.length≤(es.getD i' []).length:=by omega
      clear e1 gk gn hg
      generalize es.getD i' []=row at hl hl'
      simp only [List.length_drop,zfj hl']
      split
      ·rename_i hm
       have:((splice row o new).drop o').take m=(row.drop o').take m:=by
        apply List.ext_getElem
        ·simp [zfj hl']
        ·intro q q1 q2
         simp only [List.length_take,List.length_drop] at q2
         have hq:o'+q<row.length:=by omega
         have hs:=zme hl' (o'+q) .undef
         have hnot:¬ (o≤o'+q∧o'+q<o+new.length):=by
          rintro ⟨a1,a2⟩
          exact hout (o'+q) (by omega) (by omega) (hW (o'+q) (by omega) (by omega))
         rw [if_neg hnot] at hs
         have hq3:o'+q<(splice row o new).length:=by rw [zfj hl']; exact hq
         simp only [List.getElem_take,List.getElem_drop]
         simpa only [List.getD_eq_getElem?_getD,List.getElem?_eq_getElem hq3,List.getElem?_eq_getElem hq,Option.getD_some] using hs
       rw [this]
      ·rfl
     ·have e1:(es.set i (splice (es.getD i []) o new)).getD i' []=es.getD i' []:=by simp [List.getD_eq_getElem?_getD,List.getElem?_set,Ne.symm hii]
      rw [e1]
    ·simp only [if_neg hi']
   ·simp only [aload,pcells,gn κ' hk]
  constructor
  ·rintro ⟨k1,k2⟩
   refine ⟨?_,k2⟩
   rw [key k2]
   obtain ⟨u,hu,k1⟩:=Option.map_eq_some_iff.1 k1
   simp only [Prod.mk.injEq,and_true] at k1
   rw [hu,k1]; rfl
  ·rintro ⟨k1,k2⟩
   refine ⟨?_,k2⟩
   rw [key k2] at k1
   obtain ⟨u,hu,k1⟩:=Option.map_eq_some_iff.1 k1
   simp only [Prod.mk.injEq,and_true] at k1
   rw [hu,k1]; rfl
 ·rename_i c e s x
  simp only [AV1,aval]
  have key:aiaddr g e (evX t s) (evX t x)=aiaddr h e (evX t s) (evX t x):=by
   generalize evX t s=p
   generalize evX t x=q
   cases p <;> first | rfl | (cases q <;> rfl) | skip
   rename_i κ' lo m
   cases q <;> first | rfl | skip
   by_cases hk:κ'=κ
   ·subst hk; simp only [aiaddr,gk,hκ,List.length_set]
   ·simp only [aiaddr,gn κ' hk]
  rw [key]
  constructor
  ·rintro ⟨k1,k2⟩
   obtain ⟨u,hu,k1⟩:=Option.map_eq_some_iff.1 k1
   simp only [Prod.mk.injEq,and_true] at k1
   exact ⟨by rw [hu,k1]; rfl,k2⟩
  ·rintro ⟨k1,k2⟩
   obtain ⟨u,hu,k1⟩:=Option.map_eq_some_iff.1 k1
   simp only [Prod.mk.injEq,and_true] at k1
   exact ⟨by rw [hu,k1]; rfl,k2⟩
 ·rename_i c e s lo hi
  simp only [AV1,aval]
  have key:aslc g e (evX t s) (lo.map (evX t)) (hi.map (evX t))=aslc h e (evX t s) (lo.map (evX t)) (hi.map (evX t)):=by
   generalize evX t s=p
   generalize lo.map (evX t)=ql
   generalize hi.map (evX t)=qh
   cases p <;> first | rfl | skip
   rename_i κ' b m
   by_cases hk:κ'=κ
   ·subst hk; simp only [aslc,gk,hκ]
   ·simp only [aslc,gn κ' hk]
  rw [key]
  constructor
  ·rintro ⟨k1,k2⟩
   obtain ⟨u,hu,k1⟩:=Option.map_eq_some_iff.1 k1
   simp only [Prod.mk.injEq,and_true] at k1
   exact ⟨by rw [hu,k1]; rfl,k2⟩
  ·rintro ⟨k1,k2⟩
   obtain ⟨u,hu,k1⟩:=Option.map_eq_some_iff.1 k1
   simp only [Prod.mk.injEq,and_true] at k1
   exact ⟨by rw [hu,k1]; rfl,k2⟩
theorem farOk_class {op:AOp} (hf:farOk op=true):hclass op=1∨(hclass op=2∧∀ a b c d e f,op≠.appN a b c d e f):=by
 cases op <;> first | (simp [farOk] at hf; done) | (left; rfl) | (right; exact ⟨rfl,fun _ _ _ _ _ _ e => by cases e⟩)
theorem zxC {t:Nat→AV} {h h1 h2:Hp} {v1 v2:AV} {a b:AOp} (ha:farStore a=true) (hb:farOk b=true) (k1:AV1 E base W a t h v1 h1) (k2:AV1 E base W b t h1 v2 h2) :
  ∃ hm,AV1 E base W b t h v2 hm∧AV1 E base W a t hm v1 h2:=by
 obtain ⟨κ,i,o,n,esz,es,new,c1,c2,c3,c4,c5,rfl,f⟩:=zuH ha k1
 rcases farOk_class hb with hr | ⟨hr,hn⟩
 ·obtain ⟨rfl,_⟩:=AV1_read hr k2
  exact ⟨h,(zvL hb hr c2 c3 c4 c5).2 k2,k1⟩
 ·obtain ⟨k,x,_,rfl,f2⟩:=AV1_create hr hn k2
  refine ⟨upd h (base+k) x,f2 h,?_⟩
  have:=f (upd h (base+k) x) (zaE _ _ _ (by omega))
  rw [zog (by omega)] at this
  exact this
theorem zwZ {t:Nat→AV} {h h1 h2:Hp} {v1 v2:AV} {a b:AOp} (ha:farStore a=true) (hb:farOk b=true) (k1:AV1 E base W b t h v1 h1) (k2:AV1 E base W a t h1 v2 h2) :
  ∃ hm,AV1 E base W a t h v2 hm∧AV1 E base W b t hm v1 h2:=by
 obtain ⟨κ,i,o,n,esz,es,new,c1,c2,c3,c4,c5,rfl,f⟩:=zuH ha k2
 rcases farOk_class hb with hr | ⟨hr,hn⟩
 ·obtain ⟨rfl,_⟩:=AV1_read hr k1
  exact ⟨_,k2,(zvL hb hr c2 c3 c4 c5).1 k1⟩
 ·obtain ⟨k,x,_,rfl,f2⟩:=AV1_create hr hn k1
  have hk:upd h (base+k) x κ=h κ:=zaE _ _ _ (by omega)
  refine ⟨upd h κ _,f h hk.symm,?_⟩
  have:=f2 (upd h κ (some (.row false esz (es.set i (splice (es.getD i []) o new)))))
  rw [zog (by omega)] at this
  exact this
def looks (o:AOper):List Nat:=usesO o.op++(match o.guard with | some (_,d,_) => [d] | none => [])
def dstIn (o:AOper) (l:List Nat):Bool:=match o.dst with
 | some d => l.contains d
 | none => false
def indep (a b:AOper):Bool:=
 !dstIn a (looks b)&&(!dstIn b (looks a)&&((match a.dst,b.dst with | some x,some y => x != y | _,_ => true) &&
 ((hclass a.op==0||(hclass b.op==0||((hclass a.op≤2&&hclass b.op≤2)||((farStore a.op&&farOk b.op)||(farStore b.op&&farOk a.op)))))&&(hclass a.op != 4&&hclass b.op != 4))))
theorem putT_other {d:Option Nat} {t:Nat→AV} {v:AV} {i:Nat} (hd:d≠some i):putT d t v i=t i:=by
 cases d with
 | none => rfl
 | some d => exact zaE _ _ _ (fun e => hd (by rw [e]))
theorem putT_comm {d d':Option Nat} (hd:∀ i,d=some i→d'≠some i) (t:Nat→AV) (v v':AV):putT d' (putT d t v) v'=putT d (putT d' t v') v:=by
 cases d with
 | none => rfl
 | some d => 
  cases d' with
  | none => rfl
  | some d' => 
   have hne:d'≠d:=fun e => hd d rfl (by rw [e])
   funext i
   simp only [putT,upd]
   by_cases h1:i=d'
   ·by_cases h2:i=d
    ·omega
    ·simp [h1,hne]
   ·simp [h1]
theorem wantA_put {o b:AOper} {t:Nat→AV} {v:AV} (hd:dstIn o (looks b)=false):wantA b.guard (putT o.dst t v)=wantA b.guard t:=by
 unfold wantA
 cases hg:b.guard with
 | none => rfl
 | some g => 
  obtain ⟨j,d,w⟩:=g
  simp only
  rw [putT_other]
  intro e
  unfold dstIn at hd
  rw [e] at hd
  simp [looks,hg] at hd
theorem zqP {o b:AOper} {t:Nat→AV} {v:AV} (hd:dstIn o (looks b)=false):∀ i∈usesO b.op,putT o.dst t v i=t i:=by
 intro i hi
 refine putT_other fun e => ?_
 unfold dstIn at hd
 rw [e] at hd
 simp [looks,hi] at hd
def Stp (E:Env) (base:Nat) (W:Nat→Nat→Nat→Prop) (o:AOper) (s s':St):Prop:=AW1' E base W o (fun x => x=s') s
theorem AW1'_stp {o:AOper} {K:St→Prop} {s:St} (h:AW1' E base W o K s):∃ s',Stp E base W o s s'∧K s':=by
 unfold AW1' at h
 unfold Stp AW1'
 split at h
 ·exact h.elim
 ·rename_i hw; exact ⟨_,rfl,h⟩
 ·rename_i hw
  obtain ⟨v,h',g,hK⟩:=h
  exact ⟨_,⟨v,h',g,rfl⟩,hK⟩
theorem stp_AW1' {o:AOper} {K:St→Prop} {s s':St} (h:Stp E base W o s s') (hK:K s'):AW1' E base W o K s:=by
 refine AW1'_mono (K:=fun x => x=s') ?_ h
 rintro _ rfl
 exact hK
theorem zxn {o1 o2:AOper} (hi:indep o1 o2=true) (hk:∀ k,koff o1.op=some k→koff o2.op≠some k) {s s1 s2:St} (h1:Stp E base W o1 s s1) (h2:Stp E base W o2 s1 s2) :
  ∃ s1',Stp E base W o2 s s1'∧Stp E base W o1 s1' s2:=by
 simp only [indep,Bool.and_eq_true,Bool.not_eq_true',Bool.or_eq_true,beq_iff_eq,decide_eq_true_eq,bne_iff_ne] at hi
 obtain ⟨d1,d2,d3,hc,_⟩:=hi
 have hdd:∀ i,o1.dst=some i→o2.dst≠some i:=by
  intro i e1 e2
  rw [e1,e2] at d3
  simp at d3
 unfold Stp AW1' at h1
 split at h1
 ·exact h1.elim
 ·
  rename_i hw1
  subst h1
  unfold Stp AW1' at h2
  simp only at h2
  rw [wantA_put d1] at h2
  split at h2
  ·exact h2.elim
  ·rename_i hw2
   subst h2
   refine ⟨⟨putT o2.dst s.t .hole,s.h,s.n⟩,?_,?_⟩
   ·unfold Stp AW1'; rw [hw2]
   ·unfold Stp AW1'; simp only; rw [wantA_put d2,hw1]; simp only; rw [putT_comm hdd]
  ·rename_i hw2
   obtain ⟨v,h',g,rfl⟩:=h2
   refine ⟨⟨putT o2.dst s.t v,h',s.n⟩,?_,?_⟩
   ·unfold Stp AW1'; rw [hw2]; exact ⟨v,h',AV1_congr (fun i hi => zqP d1 i hi) g,rfl⟩
   ·unfold Stp AW1'; simp only; rw [wantA_put d2,hw1]; simp only; rw [putT_comm hdd]
 ·rename_i hw1
  obtain ⟨v1,g1',g1,rfl⟩:=h1
  unfold Stp AW1' at h2
  simp only at h2
  rw [wantA_put d1] at h2
  split at h2
  ·exact h2.elim
  ·rename_i hw2
   subst h2
   refine ⟨⟨putT o2.dst s.t .hole,s.h,s.n⟩,?_,?_⟩
   ·unfold Stp AW1'; rw [hw2]
   ·unfold Stp AW1'; simp only; rw [wantA_put d2,hw1]; simp only
    exact ⟨v1,g1',AV1_congr (fun i hi => (zqP d2 i hi).symm) g1,by rw [putT_comm hdd]⟩
  ·rename_i hw2
   obtain ⟨v2,g2',g2,rfl⟩:=h2
   have g2:=AV1_congr (fun i hi => zqP (t:=s.t) (v:=v1) d1 i hi) g2
   have fin:∀ (ha:Hp),AV1 E base W o2.op s.t s.h v2 ha→AV1 E base W o1.op s.t ha v1 g2' →
     ∃ s1',Stp E base W o2 s s1'∧Stp E base W o1 s1' ⟨putT o2.dst (putT o1.dst s.t v1) v2,g2',s.n⟩:=by
    intro ha k1 k2
    refine ⟨⟨putT o2.dst s.t v2,ha,s.n⟩,?_,?_⟩
    ·unfold Stp AW1'; rw [hw2]; exact ⟨v2,ha,k1,rfl⟩
    ·unfold Stp AW1'; simp only; rw [wantA_put d2,hw1]; simp only
     exact ⟨v1,g2',AV1_congr (fun i hi => (zqP d2 i hi).symm) k2,by rw [putT_comm hdd]⟩
   rcases hc with c1 | c2 | ⟨c1,c2⟩ | ⟨c1,c2⟩ | ⟨c1,c2⟩
   ·obtain ⟨rfl,f1⟩:=AV1_free c1 g1
    exact fin g2' g2 (f1 g2')
   ·obtain ⟨rfl,f2⟩:=AV1_free c2 g2
    exact fin s.h (f2 s.h) g1
   ·obtain ⟨m1,n1,rfl,f1⟩:=AV1_rc c1 g1
    obtain ⟨m2,n2,rfl,f2⟩:=AV1_rc c2 g2
    have hb:AV1 E base W o2.op s.t s.h v2 (appM base m2 s.h):=by
     cases m1 with
     | none => exact g2
     | some p => 
      obtain ⟨k,x⟩:=p
      have:=f2 (base+k) (s.h (base+k)) (Nat.le_add_right _ _)
      have e:upd (upd s.h (base+k) x) (base+k) (s.h (base+k))=s.h:=by
       funext i
       by_cases hi:i=base+k
       ·subst hi; rw [zam]
       ·rw [zaE _ _ _ hi,zaE _ _ _ hi]
      simp only [appM] at this
      rw [e] at this
      exact this
    refine fin _ hb ?_
    cases m2 with
    | none => exact g1
    | some p => 
     obtain ⟨k2,x2⟩:=p
     have:=f1 (base+k2) x2 (Nat.le_add_right _ _)
     have e:appM base m1 (upd s.h (base+k2) x2)=appM base (some (k2,x2)) (appM base m1 s.h):=by
      cases m1 with
      | none => rfl
      | some p => 
       obtain ⟨k,x⟩:=p
       have hne:k≠k2:=fun e => hk k (n1 k x rfl) (by rw [n2 k2 x2 rfl,e])
       funext i
       simp only [appM,upd]
       by_cases h1:i=base+k2
       ·by_cases h2:i=base+k
        ·omega
        ·simp [h1]; omega
       ·simp [h1]
     rw [e] at this
     exact this
   ·obtain ⟨hm,q1,q2⟩:=zxC c1 c2 g1 g2
    exact fin hm q1 q2
   ·obtain ⟨hm,q1,q2⟩:=zwZ c1 c2 g1 g2
    exact fin hm q1 q2
def AWL' (E:Env) (base:Nat) (W:Nat→Nat→Nat→Prop):List AOper→(St→Prop)→St→Prop
 | [],K,s => K s
 | o :: r,K,s => AW1' E base W o (AWL' E base W r K) s
theorem AWL_to:∀ {l:List AOper} {K:St→Prop} {s:St},AWL E true base W l K s→AWL' E base W l K s
 | [],_,_,h => h
 | o :: r,K,s,h => AW1'_mono (fun _ => AWL_to) (AW1_to h)
theorem zuK:∀ (p:List AOper) {o:AOper} {q:List AOper} {K:St→Prop} {s:St},(∀ x∈p,indep x o=true∧∀ k,koff x.op=some k→koff o.op≠some k) →
  AWL' E base W (p++o :: q) K s→AWL' E base W (o :: (p++q)) K s
 | [],o,q,K,s,_,h => h
 | x :: p,o,q,K,s,hi,h => by
  obtain ⟨s1,g1,g2⟩:=AW1'_stp h
  have g3:=zuK p (fun y hy => hi y (by simp [hy])) g2
  obtain ⟨s2,g4,g5⟩:=AW1'_stp g3
  obtain ⟨s1',k1,k2⟩:=zxn (hi x (by simp)).1 (hi x (by simp)).2 g1 g4
  exact stp_AW1' k1 (stp_AW1' k2 g5)
variable {W:Nat→Nat→Nat→Prop} {E:Env}
def kdis (aops:List AOper):Bool:=(List.range aops.length).all fun i => (List.range i).all fun j => 
 match koff (aops.getD i default).op,koff (aops.getD j default).op with
 | some a,some b => a != b
 | _,_ => true
def reaches (cops:Array Oper):Nat→Nat→Nat→Bool
 | 0,_,_ => false
 | k+1,i,j => match cops[i]? with
  | some o => o.after.any fun e => Region.binds .any e&&(e.on==j||reaches cops k e.on j)
  | none => false
def drawB (aops:List AOper) (cops:Array Oper):Bool:=(List.range aops.length).all fun i => match cops[i]? with
 | some o => o.after.all (fun e => !Region.binds .any e||decide (e.on<i)) &&
   (List.range i).all fun j => indep (aops.getD j default) (aops.getD i default)||reaches cops 12 i j
 | none => false
theorem zuw {aops:List AOper} (hk:kdis aops=true) {i j:Nat} (hi:i<aops.length) (hj:j<aops.length) (hne:i≠j) {k:Nat} (h1:koff (aops.getD i default).op=some k) :
  koff (aops.getD j default).op≠some k:=by
 intro h2
 have key:∀ i j,i<aops.length→j<i→koff (aops.getD i default).op=some k→koff (aops.getD j default).op=some k→False:=by
  intro i j hi hj h1 h2
  have:=List.all_eq_true.1 hk i (List.mem_range.2 hi)
  have:=List.all_eq_true.1 this j (List.mem_range.2 hj)
  rw [h1,h2] at this
  simp at this
 rcases Nat.lt_or_gt_of_ne hne with h | h
 ·exact key j i hj h h2 h1
 ·exact key i j hi h h1 h2
theorem zlV {cops:Array Oper} {listed:Array Bool} (hls:listed.size=cops.size) (hcl:∀ i o,cops[i]? = some o→listed.getD i true=true→∀ e∈o.after,Region.binds .any e=true→listed.getD e.on false=true) :
  ∀ (k i j:Nat) (o:Oper),cops[i]? = some o→(∀ e∈o.after,Region.binds .any e=true→listed.getD e.on false=true)→reaches cops k i j=true→listed.getD j false=true
 | 0,_,_,_,_,_,h => by cases h
 | k+1,i,j,o,ho,hd,h => by
  simp only [reaches,ho] at h
  rw [Array.any_eq_true] at h
  obtain ⟨q,hq,hb⟩:=h
  simp only [Bool.and_eq_true,Bool.or_eq_true,beq_iff_eq] at hb
  have h1:=hd _ (Array.getElem_mem hq) hb.1
  rcases hb.2 with h2 | h2
  ·rw [h2] at h1; exact h1
  ·have hs:o.after[q].on<listed.size:=by
    rcases Nat.lt_or_ge o.after[q].on listed.size with h | h
    ·exact h
    ·simp [Array.getD_eq_getD_getElem?,Array.getElem?_eq_none h] at h1
   have hc:∃ o',cops[o.after[q].on]? = some o':=⟨_,Array.getElem?_eq_getElem (by omega)⟩
   obtain ⟨o',ho'⟩:=hc
   refine zlV hls hcl k _ j o' ho' (hcl _ o' ho' ?_) h2
   simp [hs] at h1 ⊢
   exact h1
theorem zxg {nt:Nat} {cops:Array Oper} {aops:List AOper} {base:Nat} {Q:Exit→Act→World→Prop} {K:St→Prop} (hsz:cops.size=aops.length)
  (hm:∀ q,q<aops.length→∃ o,cops[q]? = some o∧MatchO E nt cops o (aops.getD q default)) (hkd:kdis aops=true) (hdr:drawB aops cops=true) :
  ∀ (fuel:Nat) (is:List Nat) (listed:Array Bool) (s:St) (a:Act) (w:World) (β:Bt) (V F:Nat→Prop),is.length=fuel→is.Pairwise (· < ·)→listed.size=cops.size →
   (∀ i,i<cops.size→(listed.getD i true=false↔i∈is))→(∀ i∈is,i<cops.size)→(∀ i o,cops[i]? = some o→listed.getD i true=true→∀ e∈o.after,Region.binds .any e=true→listed.getD e.on false=true)→RelO E nt s a w β V F→base≤s.n →
   (∀ i∈is,∀ k,koff (aops.getD i default).op=some k→¬ V (base+k)∧base+k<s.n) →
   AWL' E base W (is.map fun i => aops.getD i default) K s →
   (∀ s' a' w' β' V' F',K s'→RelO E nt s' a' w' β' V' F'→Ext w.heap β V F w'.heap β' V' F'→WX w w'→s.n≤s'.n→(∀ κ,V' κ→κ<base→V κ)→Q .normal a' w') →
   wpAny E.P .any cops Q fuel listed a w:=by
 intro fuel
 induction fuel with
 | zero => 
  intro is listed s a w β V F hl _ hls hlist hlt _ r _ _ hA hn
  have hnil:is=[]:=List.eq_nil_of_length_eq_zero hl
  subst hnil
  refine ⟨?_,hn s a w β V F hA r (Ext.refl _ _ _ _) (WX.refl w) (Nat.le_refl _) (fun _ h _ => h)⟩
  unfold Region.ready
  rw [List.filter_eq_nil_iff]
  intro i hi
  have hi':i<cops.size:=List.mem_range.1 hi
  have:listed.getD i true=true:=by
   cases hb:listed.getD i true with
   | true => rfl
   | false => exact absurd ((hlist i hi').1 hb) (by simp)
  simp [this]
 | succ fuel ih => 
  intro is listed s a w β V F hl hpw hls hlist hlt hcl r hb hfr hA hn
  refine ⟨fun hready => ?_,fun i hi => ?_⟩
  ·exfalso
   cases is with
   | nil => simp at hl
   | cons i0 rest => 
    have hi0:=hlt i0 (by simp)
    have hmem:i0∈Region.ready .any cops listed:=by
     unfold Region.ready
     rw [List.mem_filter]
     refine ⟨List.mem_range.2 hi0,?_⟩
     have h1:listed.getD i0 true=false:=(hlist i0 hi0).2 (by simp)
     have h2:=List.all_eq_true.1 hdr i0 (List.mem_range.2 (by omega))
     rw [Array.getElem?_eq_getElem hi0] at h2 ⊢
     simp only [Bool.and_eq_true] at h2
     simp only [h1,Bool.not_false,Bool.true_and,Option.map_some,Option.getD_some]
     rw [Array.all_eq_true_iff_forall_mem] at h2 ⊢
     intro e he
     have:=h2.1 e he
     simp only [Bool.or_eq_true,Bool.not_eq_true',decide_eq_true_eq] at this
     rcases this with h | h
     ·simp [h]
     ·have hon:e.on<cops.size:=by omega
      have hnot:e.on ∉ i0 :: rest:=by
       intro hin
       rcases List.mem_cons.1 hin with h' | h'
       ·omega
       ·have:=(List.pairwise_cons.1 hpw).1 _ h'; omega
      have ht:listed.getD e.on true=true:=by
       cases hb:listed.getD e.on true with
       | true => rfl
       | false => exact absurd ((hlist _ hon).1 hb) hnot
      have:listed.getD e.on false=true:=by
       have hs:e.on<listed.size:=by omega
       simpa [hs] using ht
      simp [this]
    rw [hready] at hmem
    cases hmem
  ·unfold Region.ready at hi
   rw [List.mem_filter] at hi
   obtain ⟨hi1,hi2⟩:=hi
   have hi':i<cops.size:=List.mem_range.1 hi1
   simp only [Bool.and_eq_true,Bool.not_eq_true'] at hi2
   have hin:i∈is:=(hlist i hi').1 hi2.1
   obtain ⟨p,q,rfl⟩:=List.append_of_mem hin
   obtain ⟨o,ho,m⟩:=hm i (by omega)
   have hafter:∀ e∈o.after,Region.binds .any e=true→listed.getD e.on false=true:=by
    have h2:=hi2.2
    rw [ho] at h2
    simp only [Option.map_some,Option.getD_some] at h2
    rw [Array.all_eq_true_iff_forall_mem] at h2
    intro e he hb
    have:=h2 e he
    simpa [hb] using this
   rw [List.pairwise_append] at hpw
   obtain ⟨pw1,pw2,pw3⟩:=hpw
   rw [List.pairwise_cons] at pw2
   have hfront:∀ x∈p.map (fun i => aops.getD i default),indep x (aops.getD i default)=true∧∀ k,koff x.op=some k→koff (aops.getD i default).op≠some k:=by
    intro x hx
    obtain ⟨j,hj,rfl⟩:=List.mem_map.1 hx
    have hji:j<i:=pw3 j hj i (by simp)
    have hjs:j<cops.size:=by omega
    refine ⟨?_,fun k hk => zuw hkd (by omega) (by omega) (by omega) hk⟩
    have h2:=List.all_eq_true.1 hdr i (List.mem_range.2 (by omega))
    rw [ho] at h2
    simp only [Bool.and_eq_true] at h2
    have h3:=List.all_eq_true.1 h2.2 j (List.mem_range.2 hji)
    simp only [Bool.or_eq_true] at h3
    rcases h3 with h3 | h3
    ·exact h3
    ·exfalso
     have ht:=zlV hls hcl 12 i j o ho hafter h3
     have hf:listed.getD j true=false:=(hlist j hjs).2 (by simp [hj])
     have hs:j<listed.size:=by omega
     simp [hs] at ht hf
     rw [ht] at hf; cases hf
   simp only [List.map_append,List.map_cons] at hA
   have hA':=zuK _ hfront hA
   refine ztc r ho m (fun k hk => (hfr i hin k hk).1) (fun k hk => (hfr i hin k hk).2) (AW1_of hA') ?_
   rintro a' w' ⟨s',β',V',F',hK,r',x,wx,hle,hv⟩
   have hpq:∀ j∈p++q,j∈p++i :: q∧j≠i:=by
    intro j hj
    rcases List.mem_append.1 hj with h | h
    ·exact ⟨by simp [h],by have:=pw3 j h i (by simp); omega⟩
    ·exact ⟨by simp [h],by have:=pw2.1 j h; omega⟩
   refine ih (p++q) (listed.setIfInBounds i true) s' a' w' β' V' F' (by simp at hl ⊢; omega) ?_ (by simpa using hls) (fun j hj => ?_) (fun j hj => hlt j (hpq j hj).1) (fun j o' ho' hj e he hbd => ?_) r' (Nat.le_trans hb hle) (fun j hj k hk => ?_) ?_
    (fun s2 a2 w2 β2 V2 F2 k1 k2 k3 k4 k5 k6 => hn s2 a2 w2 β2 V2 F2 k1 k2 (x.trans k3) (wx.trans k4) (Nat.le_trans hle k5) (fun κ h1 h2 => by
     rcases hv κ (k6 κ h1 h2) (by omega) with h | ⟨o',_,he⟩
     ·exact h
     ·omega))
   ·rw [List.pairwise_append]
    exact ⟨pw1,pw2.2,fun a ha b hb => pw3 a ha b (by simp [hb])⟩
   ·by_cases hji:j=i
    ·subst hji
     have hs:j<listed.size:=by omega
     have:(listed.setIfInBounds j true).getD j true=true:=by simp [hs]
     rw [this]
     simp only [Bool.true_eq_false,false_iff]
     exact fun h => (hpq j h).2 rfl
    ·have:(listed.setIfInBounds i true).getD j true=listed.getD j true:=by
      simp [Array.getD_eq_getD_getElem?,Array.getElem?_setIfInBounds,Ne.symm hji]
     rw [this,hlist j hj]
     simp [hji]
   ·have hkeep:∀ q,listed.getD q false=true→(listed.setIfInBounds i true).getD q false=true:=by
     intro q hq
     by_cases hqi:q=i
     ·subst hqi
      have hs:q<listed.size:=by omega
      simp [hs]
     ·simp only [Array.getD_eq_getD_getElem?,Array.getElem?_setIfInBounds,Ne.symm hqi,if_false] at hq ⊢
      exact hq
    by_cases hji:j=i
    ·subst hji
     rw [ho] at ho'
     obtain rfl:=Option.some.inj ho'
     exact hkeep _ (hafter e he hbd)
    ·have h1:listed.getD j true=true:=by
      simpa [Array.getD_eq_getD_getElem?,Array.getElem?_setIfInBounds,Ne.symm hji] using hj
     exact hkeep _ (hcl j o' ho' h1 e he hbd)
   ·obtain ⟨h1,h2⟩:=hpq j hj
    obtain ⟨h3,h4⟩:=hfr j h1 k hk
    refine ⟨fun hV => ?_,Nat.lt_of_lt_of_le h4 hle⟩
    rcases hv _ hV h4 with h | ⟨o',ho',he⟩
    ·exact h3 h
    ·have:o'=k:=by omega
     subst this
     exact zuw hkd (by have:=hlt j h1; omega) (by omega) h2 hk ho'
   ·rw [List.map_append]; exact hK
variable {E:Env} {nt:Nat}
inductive ACode where
 | skip | ret
 | exit (i:Nat)
 | reg (res:Nat) (ops:List AOper) (dr:Bool) (live:List Nat)
 | seq (a b:ACode)
 | cond (c:AX) (a b:ACode)
 | block (i:Nat) (a:ACode)
 | loop (a:ACode)
 | fz (sl:List Nat) (a:ACode)
inductive SC where
 | skip | ret | bad
 | exit (i:Nat)
 | reg (ops:List (Option Nat×Op×Option (Nat×Bool))) (dr:Bool)
 | seq (a b:SC)
 | cond (c:Operand) (a b:SC)
 | block (i:Nat) (a:SC)
 | loop (a:SC)
def sc:Code→SC
 | .skip => .skip
 | .ret => .ret
 | .exit i => .exit i
 | .region _ ops dr => .reg (ops.toList.map fun o => (o.dst,stripO o.op,o.guard)) dr
 | .seq a b => .seq (sc a) (sc b)
 | .cond c a b => .cond c (sc a) (sc b)
 | .block i a => .block i (sc a)
 | .loop a => .loop (sc a)
 | _ => .bad
def em (E:Env):ACode→SC
 | .skip => .skip
 | .ret => .ret
 | .exit i => .exit i
 | .reg _ ops dr _ => .reg (ops.map fun o => (o.dst,emitO E o.op,o.guard.map fun g => (g.1,g.2.2))) dr
 | .seq a b => .seq (em E a) (em E b)
 | .cond c a b => .cond (emitX E c) (em E a) (em E b)
 | .block i a => .block i (em E a)
 | .loop a => .loop (em E a)
 | .fz _ a => em E a
def regB (E:Env) (nt:Nat) (res:Nat) (ops:List AOper) (dr:Bool) (cops:Array Oper):Bool:=
 ops.all (fun o => okO E o.op&&((match o.dst with | some d => decide (d<nt) | none => true) &&
  (match o.guard with | some g => (cops[g.1]?).bind (·.dst)==some g.2.1 | none => true))) &&
 ((ops.filterMap fun o => koff o.op).all (fun k => decide (k<res))&&(decide (ops.filterMap fun o => koff o.op).Nodup&&(!dr||(kdis ops&&drawB ops cops))))
def okC (E:Env) (nt:Nat):ACode→Code→Bool
 | .reg res ops dr _,.region _ cops _ => regB E nt res ops dr cops
 | .seq a b,.seq c d => okC E nt a c&&okC E nt b d
 | .cond x a b,.cond _ c d => xOk x&&(okC E nt a c&&okC E nt b d)
 | .block _ a,.block _ c => okC E nt a c
 | .loop a,.loop c => okC E nt a c
 | .fz _ a,c => okC E nt a c
 | .skip,_ => true
 | .ret,_ => true
 | .exit _,_ => true
 | _,_ => false
structure MatchC (E:Env) (nt:Nat) (ac:ACode) (c:Code):Prop where
 eq:sc c=em E ac
 ok:okC E nt ac c=true
 mx:E.P.follows .mixedOrders=true
def tm:List (Nat×AV)→Nat→AV
 | [],_ => .undef
 | (k,v) :: l,i => if i=k then v else tm l i
def prune (live:List Nat) (t:Nat→AV):Nat→AV:=tm (live.map fun i => (i,t i))
theorem zvb (live:List Nat) (t:Nat→AV) (i:Nat):prune live t i=t i∨prune live t i=.undef:=by
 unfold prune
 induction live with
 | nil => exact .inr rfl
 | cons a l ih => 
  simp only [List.map_cons,tm]
  split
  ·rename_i h; subst h; exact .inl rfl
  ·exact ih
inductive AExit where
 | normal | ret
 | exit (i:Nat)
def cvE:AExit→Exit
 | .normal => .normal
 | .ret => .ret
 | .exit i => .exit i
structure End (E:Env) (nt:Nat) (Q:AExit→St→Prop) (s:St) (w:World) (β:Bt) (V F:Nat→Prop) (ae:AExit) (a':Act) (w':World):Prop where
 ex:∃ s' β' V' F',Q ae s'∧RelO E nt s' a' w' β' V' F'∧Ext w.heap β V F w'.heap β' V' F'∧WX w w'∧s.n≤s'.n∧∀ κ,V' κ→κ<s.n→V κ
def AW (E:Env) (nt:Nat) (ac:ACode) (Q:AExit→St→Prop) (s:St):Prop:=
 ∀ c,MatchC E nt ac c→∀ a w β V F,RelO E nt s a w β V F→c.wp E.P (fun e a' w' => ∃ ae,e=cvE ae∧End E nt Q s w β V F ae a' w') a w
theorem End.refl {Q:AExit→St→Prop} {s:St} {a:Act} {w:World} {β:Bt} {V F:Nat→Prop} {ae:AExit} (r:RelO E nt s a w β V F) (h:Q ae s):End E nt Q s w β V F ae a w:=
 ⟨⟨s,β,V,F,h,r,Ext.refl _ _ _ _,WX.refl w,Nat.le_refl _,fun _ h _ => h⟩⟩
theorem AW.mono {ac:ACode} {Q Q':AExit→St→Prop} {s:St} (h:AW E nt ac Q s) (hq:∀ e s,Q e s→Q' e s):AW E nt ac Q' s:=
 fun c m a w β V F r => wp_mono (h c m a w β V F r) fun e a' w' ⟨ae,he,⟨s',β',V',F',g1,g2⟩⟩ => ⟨ae,he,⟨s',β',V',F',hq _ _ g1,g2⟩⟩
theorem AW.skip {Q:AExit→St→Prop} {s:St} (h:Q .normal s):AW E nt .skip Q s:=by
 intro c m a w β V F r
 have:=m.eq
 cases c <;> simp only [sc,em] at this <;> first | (cases this; done) | skip
 exact wp_skip ⟨.normal,rfl,.refl r h⟩
theorem AW.ret {Q:AExit→St→Prop} {s:St} (h:Q .ret s):AW E nt .ret Q s:=by
 intro c m a w β V F r
 have:=m.eq
 cases c <;> simp only [sc,em] at this <;> first | (cases this; done) | skip
 exact wp_ret ⟨.ret,rfl,.refl r h⟩
theorem AW.exit {Q:AExit→St→Prop} {s:St} {i:Nat} (h:Q (.exit i) s):AW E nt (.exit i) Q s:=by
 intro c m a w β V F r
 have:=m.eq
 cases c <;> simp only [sc,em] at this <;> first | (cases this; done) | skip
 cases this
 exact wp_exit ⟨.exit i,rfl,.refl r h⟩
def seqQ (E:Env) (nt:Nat) (b:ACode) (Q:AExit→St→Prop):AExit→St→Prop
 | .normal,s => AW E nt b Q s
 | e,s => Q e s
theorem End.trans {Q:AExit→St→Prop} {s s1:St} {w w1:World} {β β1:Bt} {V V1 F F1:Nat→Prop} {ae:AExit} {a':Act} {w':World}
  (x:Ext w.heap β V F w1.heap β1 V1 F1) (wx:WX w w1) (hle:s.n≤s1.n) (hv:∀ κ,V1 κ→κ<s.n→V κ) (h:End E nt Q s1 w1 β1 V1 F1 ae a' w'):End E nt Q s w β V F ae a' w':=by
 obtain ⟨s',β',V',F',g1,g2,g3,g4,g5,g6⟩:=h
 exact ⟨⟨s',β',V',F',g1,g2,x.trans g3,wx.trans g4,Nat.le_trans hle g5,fun κ h1 h2 => hv κ (g6 κ h1 (by omega)) h2⟩⟩
theorem AW.seq {x y:ACode} {Q:AExit→St→Prop} {s:St} (h:AW E nt x (seqQ E nt y Q) s):AW E nt (.seq x y) Q s:=by
 intro c m a w β V F r
 have he:=m.eq
 have hok:=m.ok
 cases c <;> simp only [sc,em] at he <;> first | (cases he; done) | skip
 rename_i cx cy
 injection he with e1 e2
 simp only [okC,Bool.and_eq_true] at hok
 refine wp_seq (wp_mono (h cx ⟨e1,hok.1,m.mx⟩ a w β V F r) ?_)
 rintro e a' w' ⟨ae,rfl,⟨s',β',V',F',g1,g2,g3,g4,g5,g6⟩⟩
 cases ae with
 | normal => 
  simp only [cvE,Exit.then]
  refine wp_mono (g1 cy ⟨e2,hok.2,m.mx⟩ a' w' β' V' F' g2) ?_
  rintro e a2 w2 ⟨ae,rfl,k⟩
  exact ⟨ae,rfl,.trans g3 g4 g5 g6 k⟩
 | ret => exact ⟨.ret,rfl,⟨s',β',V',F',g1,g2,g3,g4,g5,g6⟩⟩
 | exit i => exact ⟨.exit i,rfl,⟨s',β',V',F',g1,g2,g3,g4,g5,g6⟩⟩
theorem AW.cond {x:AX} {p q:ACode} {Q:AExit→St→Prop} {s:St} {b:Bool} (hx:evX s.t x=.bool b) (ht:b=true→AW E nt p Q s) (hf:b=false→AW E nt q Q s):AW E nt (.cond x p q) Q s:=by
 intro c m a w β V F r
 have he:=m.eq
 have hok:=m.ok
 cases c <;> simp only [sc,em] at he <;> first | (cases he; done) | skip
 rename_i cx cp cq
 injection he with e1 e2 e3
 simp only [okC,Bool.and_eq_true] at hok
 have rx:=evX_sound r.tr hok.1
 rw [hx,← e1] at rx
 refine wp_cond (zki rx) ?_
 cases b with
 | true => exact ht rfl cp ⟨e2,hok.2.1,m.mx⟩ a w β V F r
 | false => exact hf rfl cq ⟨e3,hok.2.2,m.mx⟩ a w β V F r
def blockQ (i:Nat) (Q:AExit→St→Prop):AExit→St→Prop
 | .exit j,s => if j=i then Q .normal s else Q (.exit j) s
 | e,s => Q e s
theorem AW.block {i:Nat} {x:ACode} {Q:AExit→St→Prop} {s:St} (h:AW E nt x (blockQ i Q) s):AW E nt (.block i x) Q s:=by
 intro c m a w β V F r
 have he:=m.eq
 have hok:=m.ok
 cases c <;> simp only [sc,em] at he <;> first | (cases he; done) | skip
 rename_i j cx
 injection he with e1 e2
 subst e1
 simp only [okC] at hok
 refine wp_block (wp_mono (h cx ⟨e2,hok,m.mx⟩ a w β V F r) ?_)
 rintro e a' w' ⟨ae,rfl,⟨s',β',V',F',g1,g2⟩⟩
 cases ae with
 | normal => exact ⟨.normal,rfl,⟨s',β',V',F',g1,g2⟩⟩
 | ret => exact ⟨.ret,rfl,⟨s',β',V',F',g1,g2⟩⟩
 | exit i => 
  simp only [cvE,Exit.inBlock]
  simp only [blockQ] at g1
  by_cases hi:i=j
  ·rw [if_pos hi] at g1 ⊢; exact ⟨.normal,rfl,⟨s',β',V',F',g1,g2⟩⟩
  ·rw [if_neg hi] at g1 ⊢; exact ⟨.exit i,rfl,⟨s',β',V',F',g1,g2⟩⟩
theorem AW.loop {x:ACode} {Q:AExit→St→Prop} (I:Nat→St→Prop)
  (round:∀ k s,I k s→AW E nt x (fun e s' => match e with | .normal => ∃ k',k'<k∧I k' s' | e => Q e s') s):∀ (k:Nat) (s:St),I k s→AW E nt (.loop x) Q s:=by
 intro k s hI c m a w β V F r
 have he:=m.eq
 have hok:=m.ok
 cases c <;> simp only [sc,em] at he <;> first | (cases he; done) | skip
 rename_i cx
 injection he with e1
 simp only [okC] at hok
 intro b kk cs
 have key:∀ n s1 a1 w1 β1 V1 F1,I n s1→RelO E nt s1 a1 w1 β1 V1 F1→Ext w.heap β V F w1.heap β1 V1 F1→WX w w1→s.n≤s1.n→(∀ κ,V1 κ→κ<s.n→V κ) →
   ∃ e a' w',(∃ ae,e=cvE ae∧End E nt Q s w β V F ae a' w')∧Arrives E.P (lone (b.at a1 (.code cx :: .inLoop cx :: kk)) cs w1) b kk cs e a' w':=by
  intro n
  induction n using Nat.strongRecOn with
  | _ n ih => 
   intro s1 a1 w1 β1 V1 F1 hI1 r1 x1 wx1 hle1 hv1
   obtain ⟨e,a2,w2,⟨ae,rfl,⟨s2,β2,V2,F2,g1,g2,g3,g4,g5,g6⟩⟩,harr⟩:=round n s1 hI1 cx ⟨e1,hok,m.mx⟩ a1 w1 β1 V1 F1 r1 b (.inLoop cx :: kk) cs
   cases ae with
   | normal => 
    obtain ⟨k',hk',hI2⟩:=g1
    obtain ⟨e,a3,w3,h3,harr3⟩:=ih k' hk' s2 a2 w2 β2 V2 F2 hI2 g2 (x1.trans g3) (wx1.trans g4) (Nat.le_trans hle1 g5) (fun κ h1 h2 => hv1 κ (g6 κ h1 (by omega)) h2)
    exact ⟨e,a3,w3,h3,.of_steps (Steps.trans harr (.one step_inLoop)) harr3⟩
   | ret => 
    exact ⟨_,a2,w2,⟨.ret,rfl,.trans x1 wx1 hle1 hv1 ⟨⟨s2,β2,V2,F2,g1,g2,g3,g4,g5,g6⟩⟩⟩,.pass (x:=.inLoop cx) rfl (fun _ _ => .inl (by simp [cvE])) harr⟩
   | exit i => 
    exact ⟨_,a2,w2,⟨.exit i,rfl,.trans x1 wx1 hle1 hv1 ⟨⟨s2,β2,V2,F2,g1,g2,g3,g4,g5,g6⟩⟩⟩,.pass (x:=.inLoop cx) rfl (fun _ _ => .inl (by simp [cvE])) harr⟩
 obtain ⟨e,a',w',h',harr⟩:=key k s a w β V F hI r (Ext.refl _ _ _ _) (WX.refl w) (Nat.le_refl _) (fun _ h _ => h)
 exact ⟨e,a',w',h',.of_steps (.one step_loop) harr⟩
variable {E:Env} {nt:Nat}
theorem zup {s:St} {a:Act} {w:World} {β:Bt} {V F:Nat→Prop} (r:RelO E nt s a w β V F) (live:List Nat):RelO E nt ⟨prune live s.t,s.h,s.n⟩ a w β V F:=
 ⟨r.defers,r.nt,fun i => by
  rcases zvb live s.t i with h | h
  ·simp only; rw [h]; exact r.tr i
  ·simp only; rw [h]; exact .fz (.undef _),r.hr,r.vb⟩
theorem AW.reg (W:Nat→Nat→Nat→Prop) {res:Nat} {ops:List AOper} {dr:Bool} {live:List Nat} {Q:AExit→St→Prop} {s:St}
  (h:AWL E dr s.n W ops (fun s' => Q .normal ⟨prune live s'.t,s'.h,s'.n⟩) ⟨s.t,s.h,s.n+res⟩):AW E nt (.reg res ops dr live) Q s:=by
 intro c m a w β V F r
 have he:=m.eq
 have hok:=m.ok
 cases c <;> simp only [sc,em] at he <;> first | (cases he; done) | skip
 rename_i id cops draw
 injection he with e1 e2
 subst e2
 simp only [okC,regB,Bool.and_eq_true] at hok
 obtain ⟨k1,k2,k3,k4⟩:=hok
 have hsz:cops.size=ops.length:=by
  have:=congrArg List.length e1
  simpa using this
 have hm:∀ q,q<ops.length→∃ o,cops[q]? = some o∧MatchO E nt cops o (ops.getD q default):=by
  intro q hq
  have hq':q<cops.size:=by omega
  refine ⟨cops[q],Array.getElem?_eq_getElem hq',?_⟩
  have e3:ops.getD q default=ops[q]:=by simp [List.getD_eq_getElem?_getD,hq]
  rw [e3]
  have e4:=congrArg (fun l => l[q]?) e1
  simp only [List.getElem?_map,Array.getElem?_toList,Array.getElem?_eq_getElem hq',List.getElem?_eq_getElem hq,Option.map_some,Option.some.injEq,Prod.mk.injEq] at e4
  have hb:=List.all_eq_true.1 k1 ops[q] (List.getElem_mem hq)
  simp only [Bool.and_eq_true] at hb
  refine ⟨e4.1,e4.2.1,e4.2.2,hb.1,fun d hd => ?_,fun g hg => ?_⟩
  ·have:=hb.2.1; rw [hd] at this; simpa using this
  ·have:=hb.2.2; rw [hg] at this; simpa using this
 have r':RelO E nt ⟨s.t,s.h,s.n+res⟩ a w β V F:=⟨r.defers,r.nt,r.tr,r.hr,fun κ hκ => by have:=r.vb κ hκ; simp only; omega⟩
 have hfr:∀ k∈ops.filterMap (fun o => koff o.op),¬ V (s.n+k)∧s.n+k<s.n+res:=by
  intro k hk
  have:=List.all_eq_true.1 k2 k hk
  refine ⟨fun hV => ?_,by simp at this; omega⟩
  have:=r.vb _ hV; omega
 cases draw with
 | false => 
  refine wp_region (zur (List.range cops.size) ops _ r' (by simp) (by simpa using hsz) (fun q hq => ?_) (by simpa using k3) hfr h ?_)
  ·have hq':q<cops.size:=by simpa using hq
   have:(List.range cops.size).getD q 0=q:=by simp [List.getD_eq_getElem?_getD,hq']
   rw [this]; exact hm q (by omega)
  ·intro s' a' w' β' V' F' g1 g2 g3 g4 g5 g6
   exact ⟨.normal,rfl,⟨⟨_,β',V',F',g1,zup g2 live,g3,g4,by simp only at g5 ⊢; omega,g6⟩⟩⟩
 | true => 
  simp only [Bool.not_true,Bool.false_or,Bool.and_eq_true] at k4
  have hA:=AWL_to h
  refine wp_region_any m.mx ?_
  have r2:RelO E nt ⟨s.t,s.h,s.n+res⟩ a { w with drawn:=w.drawn+1 } β V F:=⟨r'.defers,r'.nt,r'.tr,r'.hr,r'.vb⟩
  have hmap:(List.range cops.size).map (fun i => ops.getD i default)=ops:=by
   apply List.ext_getElem
   ·simp [hsz]
   ·intro i h1 h2
    simp [List.getD_eq_getElem?_getD,h2]
  refine zxg (Q:=fun e a' w' => ∃ ae,e=cvE ae∧End E nt Q s w β V F ae a' w') hsz hm k4.1 k4.2 cops.size (List.range cops.size) _ _ a _ β V F (by simp) (List.pairwise_lt_range) (by simp) (fun i hi => ?_) (fun i hi => List.mem_range.1 hi) (fun i o ho hli => ?_) r2 (Nat.le_add_right s.n res) (fun i hi k hk => ?_) (by rw [hmap]; exact hA) ?_
  ·simp [hi]
  ·have hi':=(Array.getElem?_eq_some_iff.1 ho).1
   simp [hi'] at hli
  ·refine hfr k (List.mem_filterMap.2 ⟨ops.getD i default,?_,hk⟩)
   have hi':i<ops.length:=by have:=List.mem_range.1 hi; omega
   rw [List.getD_eq_getElem?_getD,List.getElem?_eq_getElem hi']
   exact List.getElem_mem _
  ·intro s' a' w' β' V' F' g1 g2 g3 g4 g5 g6
   exact ⟨.normal,rfl,⟨⟨_,β',V',F',g1,zup g2 live,g3,⟨g4.os,g4.tape,g4.output⟩,by simp only at g5 ⊢; omega,g6⟩⟩⟩
def frzT (h:Hp) (sl:List Nat) (t:Nat→AV):Nat→AV:=fun i => if i∈sl then (frz h FZ (t i)).getD .undef else t i
theorem AW.fz {sl:List Nat} {x:ACode} {Q:AExit→St→Prop} {s:St} (hf:∀ i∈sl,(frz s.h FZ (s.t i)).isSome=true)
  (h:AW E nt x Q ⟨frzT s.h sl s.t,roAll (frzKL s.h (sl.map s.t)) s.h,s.n⟩):AW E nt (.fz sl x) Q s:=by
 intro c m a w β V F r
 have x0:=zvD r.hr (frzKL s.h (sl.map s.t))
 have R1:=zwG r.hr (frzKL s.h (sl.map s.t))
 have r1:RelO E nt ⟨frzT s.h sl s.t,roAll (frzKL s.h (sl.map s.t)) s.h,s.n⟩ a w β V (roF s.h β (frzKL s.h (sl.map s.t)) F):=by
  refine ⟨r.defers,r.nt,fun i => ?_,R1,r.vb⟩
  simp only [frzT]
  split
  ·rename_i hi
   have:=hf i hi
   obtain ⟨y,hy⟩:=Option.isSome_iff_exists.1 this
   rw [hy]
   simp only [Option.getD_some]
   refine .fz (zms r.hr (fun b hb => .inl hb) FZ (r.tr i) hy (fun κ hκ b e hb => ?_))
   have hmem:κ∈frzKL s.h (sl.map s.t):=List.mem_flatMap.2 ⟨s.t i,List.mem_map.2 ⟨i,hi,rfl⟩,hκ⟩
   cases ho:s.h κ with
   | none => rw [(r.hr.dom κ).1 ho] at hb; cases hb
   | some o => 
    cases o with
    | row ro esz es => exact .inr ⟨κ,hmem,e,ro,esz,es,hb,ho⟩
    | mp es => exact (zuB ho FZ _ _ hy hκ).elim
  ·exact (r.tr i).mono r.hr.fsz x0
 refine wp_mono (h c ⟨m.eq,m.ok,m.mx⟩ a w β V _ r1) ?_
 rintro e a' w' ⟨ae,rfl,k⟩
 exact ⟨ae,rfl,End.trans (s1:=⟨frzT s.h sl s.t,roAll (frzKL s.h (sl.map s.t)) s.h,s.n⟩) x0 (WX.refl w) (Nat.le_refl _) (fun _ h _ => h) k⟩
inductive ARes where
 | t (i:Nat)
 | cell (i c:Nat) (ag:Bool) (n:Nat)
structure AFun where
 code:ACode
 nt:Nat
 res:List ARes
def emR (E:Env):ARes→ResultVar
 | .t i => .tmp i
 | .cell i c _ _ => .cell i (E.ty c)
def okR (E:Env):ARes→Bool
 | .t _ => true
 | .cell _ c ag n => aggB E (E.ty c) ag&&(!ag||szB E (E.ty c) n)
structure Fn (E:Env) (f:Nat) (A:AFun) (np:Nat):Prop where
 ex:∃ fn c,E.P.funcs[E.fn f]? = some fn∧(fn.name == "runtime.NumGoroutine")=false∧fn.body=some c∧fn.ntmps=A.nt∧np≤A.nt∧fn.results.toList=A.res.map (emR E) ∧
  A.res.all (okR E)=true∧MatchC E A.nt A.code c
theorem Fn.ok {f:Nat} {A:AFun} {np:Nat} (h:Fn E f A np):FnOk E f:=by
 obtain ⟨fn,c,h1,h2,h3,_⟩:=h
 exact ⟨fn,h1,h2,by rw [h3]; rfl⟩
def resV (h:Hp) (t:Nat→AV):ARes→Option AV
 | .t i => some (t i)
 | .cell i _ ag n => aload h ag n (t i)
def resL (h:Hp) (t:Nat→AV):List ARes→Option AV
 | [r] => resV h t r
 | rs => (rs.mapM (resV h t)).map .tup
def rdRes (tm:Array Value):ResultVar→Sem Value
 | .tmp t => pure (tm.getD t Go.undef)
 | .cell a t => do loadVar t (← asAddr (tm.getD a Go.undef))
theorem zwe (fn:Func) (tm:Array Value):results fn tm=(do let vs ← fn.results.mapM (rdRes tm); pure (if h:vs.size=1 then vs[0] else .tuple vs)):=by
 unfold results
 congr 2
theorem resV_sound {h:Hp} {w:World} {β:Bt} {V F:Nat→Prop} (R:HRel E h w.heap β V F) {t:Nat→AV} {tm:Array Value} (hT:TR E w.heap β V F t tm) {x:ARes} (ho:okR E x=true) {av:AV} (hv:resV h t x=some av) :
  ∃ u,(rdRes tm (emR E x)).run E.P w=.ok u w∧RV E w.heap β V F av u:=by
 cases x with
 | t i => 
  obtain rfl:=Option.some.inj hv
  exact ⟨_,rfl,hT i⟩
 | cell i c ag n => 
  simp only [resV] at hv
  simp only [okR,Bool.and_eq_true,Bool.or_eq_true,Bool.not_eq_true'] at ho
  obtain ⟨u,h1,h2⟩:=loadAt_sound R (hT i) ho.1 (fun e => by rcases ho.2 with h | h; (rw [e] at h; cases h); exact h) hv
  refine ⟨u,?_,h2⟩
  have hp:∃ A,tm.getD i Go.undef=.pointer (some A):=by
   have:=hT i
   generalize tm.getD i Go.undef=v at this h1
   unfold aload at hv
   split at hv
   ·rename_i cs hp
    obtain ⟨A,rfl,_⟩:=zqY R this hp
    exact ⟨A,rfl⟩
   ·cases hv
  obtain ⟨A,hA⟩:=hp
  rw [hA] at h1
  simp only [emR,rdRes]
  rw [hA]
  simpa [Instr.loadAt,Instr.sureAddr,asAddr] using h1
theorem zoh {h:Hp} {w:World} {β:Bt} {V F:Nat→Prop} (R:HRel E h w.heap β V F) {t:Nat→AV} {tm:Array Value} (hT:TR E w.heap β V F t tm) :
  ∀ (rs:List ARes) (vs:List AV),rs.all (okR E)=true→rs.mapM (resV h t)=some vs →
   ∃ us,((rs.map (emR E)).mapM (rdRes tm)).run E.P w=.ok us w∧us.length=vs.length ∧
    ∀ i,i<vs.length→RV E w.heap β V F (vs.getD i .undef) (us.getD i Go.undef)
 | [],vs,_,hv => by
  obtain rfl:vs=[]:=by simpa using hv.symm
  exact ⟨[],rfl,rfl,fun i hi => by simp at hi⟩
 | x :: rs,vs,ho,hv => by
  simp only [List.all_cons,Bool.and_eq_true] at ho
  simp only [List.mapM_cons,Option.bind_eq_bind,Option.bind_eq_some_iff,Option.pure_def,Option.some.injEq] at hv
  obtain ⟨v,hv1,vs',hv2,rfl⟩:=hv
  obtain ⟨u,h1,h2⟩:=resV_sound R hT ho.1 hv1
  obtain ⟨us,h3,h4,h5⟩:=zoh R hT rs vs' ho.2 hv2
  refine ⟨u :: us,?_,by simp [h4],fun i hi => ?_⟩
  ·simp only [List.map_cons,List.mapM_cons,Sem.run_bind,h1,Result.andThen_ok,h3,Sem.run_pure]
  ·cases i with
   | zero => simpa using h2
   | succ i => simpa using h5 i (by simpa using hi)
theorem ztt {h:Hp} {w:World} {β:Bt} {V F:Nat→Prop} (R:HRel E h w.heap β V F) {t:Nat→AV} {tm:Array Value} (hT:TR E w.heap β V F t tm) {fn:Func} {rs:List ARes}
  (hr:fn.results.toList=rs.map (emR E)) (ho:rs.all (okR E)=true) {av:AV} (hv:resL h t rs=some av) :
  ∃ u,(results fn tm).run E.P w=.ok u w∧RV E w.heap β V F av u:=by
 have key:∀ vs:List AV,rs.mapM (resV h t)=some vs→∃ us:List Value,(results fn tm).run E.P w=.ok (if hh:us.toArray.size=1 then us.toArray[0] else .tuple us.toArray) w∧us.length=vs.length ∧
   ∀ i,i<vs.length→RV E w.heap β V F (vs.getD i .undef) (us.getD i Go.undef):=by
  intro vs hvs
  obtain ⟨us,h1,h2,h3⟩:=zoh R hT rs vs ho hvs
  refine ⟨us,?_,h2,h3⟩
  rw [← hr] at h1
  rw [zwe,Array.mapM_eq_mapM_toList]
  simp only [Sem.run_bind,Sem.run_map]
  rw [h1]
  simp
 unfold resL at hv
 split at hv
 ·rename_i r
  obtain ⟨us,h1,h2,h3⟩:=key [av] (by simp [hv])
  have h0:=h3 0 (by simp)
  simp only [List.length_singleton] at h2
  obtain ⟨u,rfl⟩:=List.length_eq_one_iff.1 h2
  exact ⟨u,by simpa using h1,by simpa using h0⟩
 ·rename_i hne
  obtain ⟨vs,hvs,rfl⟩:=Option.map_eq_some_iff.1 hv
  obtain ⟨us,h1,h2,h3⟩:=key vs hvs
  have hlen:vs.length≠1:=by
   intro e
   have:=(mapM_some hvs).1
   rw [e] at this
   obtain ⟨r,hr'⟩:=List.length_eq_one_iff.1 this.symm
   exact hne r hr'
  have hd:¬ (us.toArray.size=1):=by simp; omega
  rw [dif_neg hd] at h1
  exact ⟨_,h1,.tup _ _ (by simp [h2]) (fun i hi => by have:=h3 i hi; simpa using this)⟩
def argT (args:List AV):Nat→AV:=fun i => args.getD i .undef
theorem zxa {h:Hp} {w:World} {β:Bt} {V F:Nat→Prop} (R:HRel E h w.heap β V F) {n:Nat} (vb:∀ κ,V κ→κ<n) {args:List AV} {vs:Array Value} (hl:vs.size=args.length) (hn:args.length≤nt)
  (hrv:∀ i,i<args.length→RV E w.heap β V F (args.getD i .undef) (vs.getD i Go.undef)) :
  RelO E nt ⟨argT args,h,n⟩ { tmps:=vs++Array.replicate (nt - vs.size) Go.undef,defers:=[] } w β V F:=by
 refine ⟨rfl,by simp; omega,fun i => ?_,R,vb⟩
 by_cases hi:i<args.length
 ·simp only [argT]
  rw [getD_append_left _ _ (by omega)]
  exact hrv i hi
 ·have:argT args i=.undef:=by simp [argT,List.getD_eq_getElem?_getD,List.getElem?_eq_none (Nat.le_of_not_lt hi)]
  simp only [this]
  exact .fz (.undef _)
def retQ (P:AV→St→Prop) (rs:List ARes):AExit→St→Prop
 | .exit _,_ => False
 | _,s => ∃ r,resL s.h s.t rs=some r∧P r s
theorem ztI {f:Nat} {A:AFun} {args:List AV} {h:Hp} {n:Nat} {R:AV→Hp→Nat→Prop} (hf:Fn E f A args.length)
  (hA:AW E A.nt A.code (retQ (fun r s => R r s.h s.n) A.res) ⟨argT args,h,n⟩):ACallS E f args h n R:=by
 refine ⟨hf.ok,fun w β V F vs Rh vb hl hrv => ?_⟩
 obtain ⟨fn,c,h1,h2,h3,h4,h5,h6,h7,h8⟩:=hf
 refine calls_of_wp h1 h3 ?_
 have r0:=zxa (nt:=A.nt) Rh vb hl h5 hrv
 rw [h4]
 refine wp_mono (hA c h8 _ w β V F r0) ?_
 rintro e a' w' ⟨ae,rfl,⟨s',β',V',F',g1,g2,g3,g4,g5,g6⟩⟩
 have fin:(∃ r,resL s'.h s'.t A.res=some r∧R r s'.h s'.n)→a'.defers=[]∧∃ v,(results fn a'.tmps).run E.P w'=.ok v w'∧∃ v_1 β' V' F' r h' n',Ending.returned v=.returned v_1∧RV E w'.heap β' V' F' r v_1∧HRel E h' w'.heap β' V' F' ∧
   Ext w.heap β V F w'.heap β' V' F'∧WX w w'∧n≤n'∧(∀ κ,V' κ→κ<n')∧(∀ κ,V' κ→κ<n→V κ)∧R r h' n':=by
  rintro ⟨r,hr,hR⟩
  obtain ⟨u,k1,k2⟩:=ztt g2.hr g2.tr h6 h7 hr
  exact ⟨g2.defers,u,k1,u,β',V',F',r,s'.h,s'.n,rfl,k2,g2.hr,g3,g4,g5,g2.vb,g6,hR⟩
 cases ae with
 | normal => exact fin g1
 | ret => exact fin g1
 | exit i => exact g1.elim
theorem ztJ {f:Nat} {A:AFun} {args:List AV} {r0:AV} (hf:Fn E f A args.length)
  (hA:AW E A.nt A.code (retQ (fun r s => frz s.h FZ r=some r0) A.res) ⟨argT args,fun _ => none,0⟩):ACallP E f args r0:=by
 refine ⟨hf.ok,fun w F vs hgb hgo hF hl hrv => ?_⟩
 have R0:HRel E (fun _ => none) w.heap (fun _ => none) (fun _ => False) F:=⟨fun κ => (by simp),fun κ b e h => (by cases h),fun κ κ' b e e' h _ => (by cases h),fun κ o h => (by cases h),hF,fun κ b e h => (by cases h),hgb,hgo⟩
 have hs:=(ztI (R:=fun r h' _ => frz h' FZ r=some r0) hf hA).2 w (fun _ => none) (fun _ => False) F vs R0 (fun _ h => h.elim) hl (fun i hi => .fz (hrv i hi))
 refine hs.mono ?_
 rintro e w' ⟨v,β',V',F',r,h',n',rfl,g1,g2,g3,g4,g5,g6,g7,g8⟩
 refine ⟨v,fun b => F' b∨∃ κ e,β' κ=some (b,e),rfl,⟨zms g2 (fun b hb => .inl hb) FZ g1 g8 (fun κ _ b e hb => .inr ⟨κ,e,hb⟩),fun b hb => .inl (g3.fmono b hb),fun b hb => ?_,fun b hb => ?_,g3.size,
  fun b hb => g3.out b hb (fun κ e he => by cases he),g4⟩⟩
 ·rcases hb with hb | ⟨κ,e,hb⟩
  ·rcases g3.fnew b hb with h | ⟨κ,e,h⟩ | h
   ·exact .inl h
   ·cases h
   ·exact .inr h
  ·rcases g3.img κ b e hb with ⟨κ',e',h⟩ | h
   ·cases h
   ·exact .inr h
 ·rcases hb with hb | ⟨κ,e,hb⟩
  ·exact g2.fsz b hb
  ·exact (g2.lt κ b e hb).2
end Go.Proofs.YtablleokoifolaaGreatDoor
set_option linter.unusedVariables false
set_option maxRecDepth 100000
namespace Go.Proofs.YtablleokoifolaaGreatDoor
open Go
theorem a_ {a b:Prop} (x:a) (y:b):a∧b:=⟨x,y⟩
theorem t_:True:=True.intro
def o_ (n:Nat) (x:AOp):AOper:=⟨some n,x,none⟩
def p_ (n:Nat) (x:AOp) (a b:Nat) (c:Bool):AOper:=⟨some n,x,some (a,b,c)⟩
def b0_:ByteArray:=⟨#[109,101,109,111,114,121,46,103,114,111,119]⟩
def b1_:ByteArray:=⟨#[109,101,109,111,114,121,46,115,105,122,101]⟩
def b2_:ByteArray:=⟨#[99,97,108,108,95,105,110,100,105,114,101,99,116]⟩
def b3_:ByteArray:=⟨#[105,54,52,46,101,120,116,101,110,100,95,105,51,50,95,117]⟩
def b4_:ByteArray:=⟨#[105,54,52,46,101,120,116,101,110,100,95,105,51,50,95,115]⟩
def b5_:ByteArray:=⟨#[103,108,111,98,97,108,46,115,101,116]⟩
def b6_:ByteArray:=⟨#[103,108,111,98,97,108,46,103,101,116]⟩
def b7_:ByteArray:=⟨#[122,122]⟩
def b8_:ByteArray:=⟨#[108,111,99,97,108,46,116,101,101]⟩
def b9_:ByteArray:=⟨#[108,111,99,97,108,46,115,101,116]⟩
def b10_:ByteArray:=⟨#[108,111,99,97,108,46,103,101,116]⟩
def b11_:ByteArray:=⟨#[105,54,52,46,99,111,110,115,116]⟩
def b12_:ByteArray:=⟨#[105,51,50,46,99,111,110,115,116]⟩
def b13_:ByteArray:=⟨#[98,114,95,116,97,98,108,101]⟩
def b14_:ByteArray:=⟨#[105,51,50,46,119,114,97,112,95,105,54,52]⟩
def b15_:ByteArray:=⟨#[105,51,50,46,108,111,97,100,49,54,95,115]⟩
def b16_:ByteArray:=⟨#[105,51,50,46,108,111,97,100,49,54,95,117]⟩
def b17_:ByteArray:=⟨#[105,54,52,46,108,111,97,100,49,54,95,115]⟩
def b18_:ByteArray:=⟨#[105,54,52,46,108,111,97,100,49,54,95,117]⟩
def b19_:ByteArray:=⟨#[105,54,52,46,108,111,97,100,51,50,95,115]⟩
def b20_:ByteArray:=⟨#[105,54,52,46,108,111,97,100,51,50,95,117]⟩
def b21_:ByteArray:=⟨#[117,110,114,101,97,99,104,97,98,108,101]⟩
def b22_:ByteArray:=⟨#[105,51,50,46,115,116,111,114,101,49,54]⟩
def b23_:ByteArray:=⟨#[105,54,52,46,115,116,111,114,101,49,54]⟩
def b24_:ByteArray:=⟨#[105,54,52,46,115,116,111,114,101,51,50]⟩
def b25_:ByteArray:=⟨#[105,51,50,46,108,111,97,100,56,95,115]⟩
def b26_:ByteArray:=⟨#[105,51,50,46,108,111,97,100,56,95,117]⟩
def b27_:ByteArray:=⟨#[105,54,52,46,108,111,97,100,56,95,115]⟩
def b28_:ByteArray:=⟨#[105,54,52,46,108,111,97,100,56,95,117]⟩
def b29_:ByteArray:=⟨#[105,51,50,46,115,116,111,114,101,56]⟩
def b30_:ByteArray:=⟨#[105,54,52,46,115,116,111,114,101,56]⟩
def b33_:ByteArray:=⟨#[112,111,112,99,110,116]⟩
def b34_:ByteArray:=⟨#[105,51,50,46,115,116,111,114,101]⟩
def b35_:ByteArray:=⟨#[105,54,52,46,115,116,111,114,101]⟩
def b37_:ByteArray:=⟨#[101,120,116,101,110,100,95,117]⟩
def b38_:ByteArray:=⟨#[101,120,116,101,110,100,95,115]⟩
def b39_:ByteArray:=⟨#[105,54,52,46,108,111,97,100]⟩
def b40_:ByteArray:=⟨#[105,51,50,46,108,111,97,100]⟩
def b41_:ByteArray:=⟨#[98,114,95,105,102]⟩
def b42_:ByteArray:=⟨#[98,108,111,99,107]⟩
def b43_:ByteArray:=⟨#[114,101,116,117,114,110]⟩
def b44_:ByteArray:=⟨#[108,111,111,112]⟩
def b45_:ByteArray:=⟨#[115,101,108,101,99,116]⟩
def b46_:ByteArray:=⟨#[99,97,108,108]⟩
def b47_:ByteArray:=⟨#[105,54,52,46]⟩
def b50_:ByteArray:=⟨#[101,113,122]⟩
def b63_:ByteArray:=⟨#[99,116,122]⟩
def b64_:ByteArray:=⟨#[99,108,122]⟩
def b65_:ByteArray:=⟨#[100,114,111,112]⟩
def b72_:ByteArray:=⟨#[103,101,95,117]⟩
def b73_:ByteArray:=⟨#[103,101,95,115]⟩
def b74_:ByteArray:=⟨#[108,101,95,117]⟩
def b75_:ByteArray:=⟨#[108,101,95,115]⟩
def b76_:ByteArray:=⟨#[103,116,95,117]⟩
def b77_:ByteArray:=⟨#[103,116,95,115]⟩
def b78_:ByteArray:=⟨#[108,116,95,117]⟩
def b79_:ByteArray:=⟨#[108,116,95,115]⟩
def b80_:ByteArray:=⟨#[119,114,97,112]⟩
def b118_:ByteArray:=⟨#[110,111,112]⟩
def b125_:ByteArray:=⟨#[105,102]⟩
def b132_:ByteArray:=⟨#[98,114]⟩
def b136_:ByteArray:=⟨#[110,101]⟩
def b137_:ByteArray:=⟨#[101,113]⟩
def b140_:ByteArray:=⟨#[95,117]⟩
def b141_:ByteArray:=⟨#[95,115]⟩
def b151_:ByteArray:=⟨#[56]⟩
def b152_:ByteArray:=⟨#[32]⟩
def b156_:ByteArray:=⟨#[]⟩
def zll:ACode:=.cond (.t 13) (.seq (.reg 0 [o_ 14 (.callp 2 []),o_ 4 (.asg (.t 14))] false [4]) (.ret)) (.skip)
def zlk:ACode:=.cond (.t 23) (.seq (.reg 0 [o_ 24 (.callp 2 []),o_ 4 (.asg (.t 24))] false [4]) (.ret)) (.skip)
def zlj:ACode:=.cond (.t 86) (.reg 3 [o_ 88 (.faddr 1 6 6 (.t 8)),o_ 89 (.load 22 false 1 (.t 88)),o_ 90 (.build 3 [.int .u8 0,.int .i64 0,.int .u32 0,.int .u32 0,.int .u8 0,.nils,.nils,.nils] [(0,0,1,.c (.int .u8 65))]),o_ 91 (.mov (.t 9)),o_ 92 (.bslv 0 23 [.int .u32 0] 1 [(0,.t 91)]),o_ 93 (.build 24 [.int .u32 0,.int .u8 0,.int .i64 0,.int .u32 0,.int .u32 0,.int .u8 0,.nils,.nils,.nils,.nils] [(1,1,8,.t 90),(2,9,1,.t 92)]),o_ 94 (.bslv 1 22 [.int .u32 0,.int .u8 0,.int .i64 0,.int .u32 0,.int .u32 0,.int .u8 0,.nils,.nils,.nils,.nils] 1 [(0,.t 93)]),o_ 95 (.app 2 22 10 136 (.t 89) (.t 94)),o_ 96 (.faddr 1 6 6 (.t 8)),⟨none,.store 22 1 (.t 96) (.t 95),none⟩] false [8]) (.reg 2 [o_ 35 (.faddr 1 7 7 (.t 8)),o_ 36 (.load 25 false 1 (.t 35)),o_ 37 (.build 3 [.int .u8 0,.int .i64 0,.int .u32 0,.int .u32 0,.int .u8 0,.nils,.nils,.nils] [(0,0,1,.c (.int .u8 65))]),o_ 38 (.build 26 [.int .u32 0,.int .u8 0,.int .i64 0,.int .u32 0,.int .u32 0,.int .u8 0,.nils,.nils,.nils,.nils] [(0,0,1,.c (.int .u32 1)),(1,1,8,.t 37)]),o_ 39 (.bslv 0 25 [.int .u32 0,.int .u8 0,.int .i64 0,.int .u32 0,.int .u32 0,.int .u8 0,.nils,.nils,.nils,.nils] 1 [(0,.t 38)]),o_ 40 (.app 1 25 10 136 (.t 36) (.t 39)),o_ 41 (.faddr 1 7 7 (.t 8)),⟨none,.store 25 1 (.t 41) (.t 40),none⟩] false [8])
def zli:ACode:=.cond (.t 77) (.reg 2 [o_ 79 (.faddr 1 4 4 (.t 8)),o_ 80 (.load 20 false 1 (.t 79)),o_ 81 (.build 3 [.int .u8 0,.int .i64 0,.int .u32 0,.int .u32 0,.int .u8 0,.nils,.nils,.nils] [(0,0,1,.c (.int .u8 65))]),o_ 82 (.build 21 [.int .u8 0,.bool false,.int .u8 0,.int .i64 0,.int .u32 0,.int .u32 0,.int .u8 0,.nils,.nils,.nils] [(0,0,1,.c (.int .u8 126)),(2,2,8,.t 81)]),o_ 83 (.bslv 0 20 [.int .u8 0,.bool false,.int .u8 0,.int .i64 0,.int .u32 0,.int .u32 0,.int .u8 0,.nils,.nils,.nils] 1 [(0,.t 82)]),o_ 84 (.app 1 20 10 112 (.t 80) (.t 83)),o_ 85 (.faddr 1 4 4 (.t 8)),⟨none,.store 20 1 (.t 85) (.t 84),none⟩] false [8]) (.seq (.reg 0 [o_ 87 (.bin .eql .other 2 (.t 34) (.c (.int .i64 5))),o_ 86 (.asg (.t 87))] false [8,9,86]) (zlj))
def zlh:ACode:=.cond (.t 71) (.reg 1 [o_ 73 (.build 19 [.int .u32 0,.bool false,.int .u32 0] []),o_ 74 (.build 19 [.int .u32 0,.bool false,.int .u32 0] []),o_ 75 (.bslv 0 18 [.int .u32 0,.bool false,.int .u32 0] 2 [(0,.t 73),(1,.t 74)]),o_ 76 (.faddr 1 3 3 (.t 8)),⟨none,.store 18 1 (.t 76) (.t 75),none⟩] false [8]) (.seq (.reg 0 [o_ 78 (.bin .eql .other 2 (.t 34) (.c (.int .i64 4))),o_ 77 (.asg (.t 78))] false [8,9,34,77]) (zli))
def zlg:ACode:=.cond (.t 63) (.reg 2 [o_ 65 (.faddr 1 2 2 (.t 8)),o_ 66 (.load 18 false 1 (.t 65)),o_ 67 (.build 19 [.int .u32 0,.bool false,.int .u32 0] [(0,0,1,.c (.int .u32 3)),(1,1,1,.c (.bool true)),(2,2,1,.c (.int .u32 2))]),o_ 68 (.bslv 0 18 [.int .u32 0,.bool false,.int .u32 0] 1 [(0,.t 67)]),o_ 69 (.app 1 18 3 12 (.t 66) (.t 68)),o_ 70 (.faddr 1 2 2 (.t 8)),⟨none,.store 18 1 (.t 70) (.t 69),none⟩] false [8]) (.seq (.reg 0 [o_ 72 (.bin .eql .other 2 (.t 34) (.c (.int .i64 3))),o_ 71 (.asg (.t 72))] false [8,9,34,71]) (zlh))
def zlf:ACode:=.cond (.t 51) (.reg 2 [o_ 53 (.faddr 1 1 1 (.t 8)),o_ 54 (.load 5 false 1 (.t 53)),o_ 55 (.faddr 1 0 0 (.t 8)),o_ 56 (.load 17 false 1 (.t 55)),o_ 57 (.len 17 (.t 56)),o_ 58 (.convi .u32 2 13 (.t 57)),o_ 59 (.build 6 [.int .u32 0,.nils,.nils] [(0,0,1,.t 58)]),o_ 60 (.bslv 0 5 [.int .u32 0,.nils,.nils] 1 [(0,.t 59)]),o_ 61 (.app 1 5 3 56 (.t 54) (.t 60)),o_ 62 (.faddr 1 1 1 (.t 8)),⟨none,.store 5 1 (.t 62) (.t 61),none⟩] false [8]) (.seq (.reg 0 [o_ 64 (.bin .eql .other 2 (.t 34) (.c (.int .i64 2))),o_ 63 (.asg (.t 64))] false [8,9,34,63]) (zlg))
def zle:ACode:=.cond (.t 42) (.reg 2 [o_ 44 (.faddr 1 5 5 (.t 8)),o_ 45 (.load 15 false 1 (.t 44)),o_ 46 (.mov (.t 9)),o_ 47 (.build 16 [.str b156_,.int .u8 0,.int .u32 0] [(0,0,1,.c (.str b7_)),(2,2,1,.t 46)]),o_ 48 (.bslv 0 15 [.str b156_,.int .u8 0,.int .u32 0] 1 [(0,.t 47)]),o_ 49 (.app 1 15 3 24 (.t 45) (.t 48)),o_ 50 (.faddr 1 5 5 (.t 8)),⟨none,.store 15 1 (.t 50) (.t 49),none⟩] false [8]) (.seq (.reg 0 [o_ 52 (.bin .eql .other 2 (.t 34) (.c (.int .i64 1))),o_ 51 (.asg (.t 52))] false [8,9,34,51]) (zlf))
def zld:ACode:=.block 0 (.seq (.reg 0 [o_ 43 (.bin .eql .other 2 (.t 34) (.c (.int .i64 0))),o_ 42 (.asg (.t 43))] false [8,9,34,42]) (zle))
def zkf:ACode:=.seq (.reg 0 [o_ 102 (.mov (.t 10)),o_ 103 (.bin .eql .other 2 (.t 102) (.c (.int .i64 (-1)))),o_ 104 (.mov (.t 103)),p_ 105 (.mov (.t 11)) 2 104 true,p_ 106 (.callp 9 [.t 105]) 2 104 true,p_ 107 (.bin .eql .other 2 (.t 106) (.c (.int .i64 7))) 2 104 true,o_ 108 (.pick (.t 104) (.t 107) (.c (.bool false))),o_ 109 (.mov (.t 108)),p_ 110 (.callp 2 []) 7 109 true,o_ 111 (.pick (.t 109) (.t 110) (.c (.bool false))),o_ 4 (.asg (.t 111))] false [4]) (.ret)
def zke:ACode:=.seq (.reg 0 [o_ 98 (.load 1 true 8 (.t 8)),o_ 99 (.callp 4 [.t 98]),o_ 97 (.mov (.t 99)),o_ 100 (.ext (.t 97) 0),o_ 101 (.ext (.t 97) 1),o_ 10 (.asg (.t 100)),o_ 11 (.asg (.t 101))] false [10,11]) (zkf)
def zkd:ACode:=.seq (.seq (.reg 0 [o_ 31 (.mov (.t 1)),o_ 32 (.convi .u64 2 14 (.t 31)),o_ 33 (.bin .rem .other 14 (.t 32) (.c (.int .u64 7))),o_ 34 (.convi .i64 14 2 (.t 33))] false [8,9,34]) (zld)) (zke)
def zkc:ACode:=.seq (.reg 0 [o_ 27 (.faddr 1 1 1 (.t 8)),o_ 28 (.load 5 false 1 (.t 27)),o_ 29 (.len 5 (.t 28)),o_ 30 (.convi .u32 2 13 (.t 29)),o_ 9 (.asg (.t 30))] false [1,8,9]) (zkd)
def zkb:ACode:=.seq (.reg 1 [o_ 25 (.load 0 true 8 (.t 2)),o_ 26 (.calls 3 [.t 25]),o_ 8 (.alloc 0 1 [.nils,.nils,.nils,.nils,.nils,.nils,.nils,.nils]),⟨none,.store 1 8 (.t 8) (.t 26),none⟩] false [1,8]) (zkc)
def zka:ACode:=.seq (.seq (.reg 0 [o_ 22 (.mov (.t 7)),o_ 23 (.bin .neq .iface 8 (.t 22) (.c .nili))] false [1,2,23]) (zlk)) (zkb)
def zjZ:ACode:=.seq (.reg 0 [o_ 18 (.load 1 true 8 (.t 5)),o_ 19 (.callp 4 [.t 18]),o_ 17 (.mov (.t 19)),o_ 20 (.ext (.t 17) 0),o_ 21 (.ext (.t 17) 1),o_ 6 (.asg (.t 20)),o_ 7 (.asg (.t 21))] false [1,2,7]) (zka)
def zjY:ACode:=.seq (.reg 1 [o_ 15 (.load 0 true 8 (.t 2)),o_ 16 (.calls 3 [.t 15]),o_ 5 (.alloc 0 1 [.nils,.nils,.nils,.nils,.nils,.nils,.nils,.nils]),⟨none,.store 1 8 (.t 5) (.t 16),none⟩] false [1,2,5]) (zjZ)
def zjX:ACode:=.seq (.seq (.reg 0 [o_ 12 (.load 0 true 8 (.t 2)),o_ 13 (.callp 1 [.t 12])] false [1,2,13]) (zll)) (zjY)
def zjW:ACode:=.seq (.reg 1 [o_ 2 (.box 0 0 (.t 0)),o_ 4 (.asg (.c (.bool false)))] false [1,2]) (zjX)
def zgU:AFun:={ nt:=112,res:=[.t 4],code:=(zjW) }
def zlU:ACode:=.cond (.t 55) (.seq (.reg 0 [o_ 2 (.asg (.c (.bool true)))] false [2]) (.ret)) (.skip)
def zlT:ACode:=.reg 0 [o_ 61 (.mov (.t 4)),o_ 62 (.bin .add .other 2 (.t 61) (.c (.int .i64 1))),o_ 4 (.asg (.t 62))] false [1,3,4]
def zlS:ACode:=.seq (.block 1 (.reg 0 [o_ 63 (.mov (.t 3)),o_ 64 (.faddr 0 0 0 (.t 1)),o_ 65 (.load 28 false 1 (.t 64)),o_ 66 (.mov (.t 4)),o_ 67 (.iaddr 28 2 (.t 65) (.t 66)),o_ 68 (.faddr 35 0 0 (.t 67)),o_ 69 (.load 36 false 1 (.t 68)),o_ 70 (.len 36 (.t 69)),o_ 71 (.mm false 2 2 (.t 70) (.c (.int .i64 5000))),o_ 72 (.bin .add .other 2 (.t 63) (.t 71)),o_ 3 (.asg (.t 72))] false [1,3,4])) (zlT)
def zlR:ACode:=.seq (.seq (.reg 0 [o_ 56 (.mov (.t 4)),o_ 57 (.faddr 0 0 0 (.t 1)),o_ 58 (.load 28 false 1 (.t 57)),o_ 59 (.len 28 (.t 58)),o_ 60 (.bin .lss .other 2 (.t 56) (.t 59))] false [1,3,4,60]) (.cond (.t 60) (.skip) (.exit 0))) (zlS)
def zlQ:ACode:=.reg 0 [o_ 78 (.mov (.t 5)),o_ 79 (.bin .add .other 2 (.t 78) (.c (.int .i64 1))),o_ 5 (.asg (.t 79))] false [1,3,5]
def zlP:ACode:=.seq (.block 3 (.reg 0 [o_ 80 (.mov (.t 3)),o_ 81 (.faddr 0 1 1 (.t 1)),o_ 82 (.load 29 false 1 (.t 81)),o_ 83 (.mov (.t 5)),o_ 84 (.iaddr 29 3 (.t 82) (.t 83)),o_ 85 (.faddr 37 1 1 (.t 84)),o_ 86 (.load 36 false 1 (.t 85)),o_ 87 (.len 36 (.t 86)),o_ 88 (.mm false 2 2 (.t 87) (.c (.int .i64 5000))),o_ 89 (.bin .add .other 2 (.t 80) (.t 88)),o_ 90 (.faddr 0 1 1 (.t 1)),o_ 91 (.load 29 false 1 (.t 90)),o_ 92 (.mov (.t 5)),o_ 93 (.iaddr 29 3 (.t 91) (.t 92)),o_ 94 (.faddr 37 2 2 (.t 93)),o_ 95 (.load 10 false 1 (.t 94)),o_ 96 (.callp 16 [.t 95,.c (.int .i64 3000),.c (.int .i64 0)]),o_ 97 (.bin .add .other 2 (.t 89) (.t 96)),o_ 3 (.asg (.t 97))] true [1,3,5])) (zlQ)
def zlO:ACode:=.seq (.seq (.reg 0 [o_ 73 (.mov (.t 5)),o_ 74 (.faddr 0 1 1 (.t 1)),o_ 75 (.load 29 false 1 (.t 74)),o_ 76 (.len 29 (.t 75)),o_ 77 (.bin .lss .other 2 (.t 73) (.t 76))] false [1,3,5,77]) (.cond (.t 77) (.skip) (.exit 2))) (zlP)
def zlN:ACode:=.reg 0 [o_ 103 (.mov (.t 6)),o_ 104 (.bin .add .other 2 (.t 103) (.c (.int .i64 1))),o_ 6 (.asg (.t 104))] false [1,3,6]
def zlM:ACode:=.seq (.block 5 (.reg 0 [o_ 105 (.mov (.t 3)),o_ 106 (.faddr 0 5 5 (.t 1)),o_ 107 (.load 32 false 1 (.t 106)),o_ 108 (.mov (.t 6)),o_ 109 (.iaddr 32 3 (.t 107) (.t 108)),o_ 110 (.faddr 38 0 0 (.t 109)),o_ 111 (.load 39 false 1 (.t 110)),o_ 112 (.lenS 39 (.t 111)),o_ 113 (.mm false 2 2 (.t 112) (.c (.int .i64 5000))),o_ 114 (.bin .add .other 2 (.t 105) (.t 113)),o_ 3 (.asg (.t 114))] false [1,3,6])) (zlN)
def zlc:ACode:=.seq (.seq (.reg 0 [o_ 98 (.mov (.t 6)),o_ 99 (.faddr 0 5 5 (.t 1)),o_ 100 (.load 32 false 1 (.t 99)),o_ 101 (.len 32 (.t 100)),o_ 102 (.bin .lss .other 2 (.t 98) (.t 101))] false [1,3,6,102]) (.cond (.t 102) (.skip) (.exit 4))) (zlM)
def zlb:ACode:=.reg 0 [o_ 120 (.mov (.t 7)),o_ 121 (.bin .add .other 2 (.t 120) (.c (.int .i64 1))),o_ 7 (.asg (.t 121))] false [1,3,7]
def zla:ACode:=.seq (.block 7 (.reg 1 [o_ 122 (.mov (.t 3)),o_ 123 (.faddr 0 6 6 (.t 1)),o_ 124 (.load 33 false 1 (.t 123)),o_ 125 (.mov (.t 7)),o_ 126 (.iaddr 33 10 (.t 124) (.t 125)),o_ 127 (.faddr 40 2 9 (.t 126)),o_ 128 (.load 23 false 1 (.t 127)),o_ 129 (.len 23 (.t 128)),o_ 130 (.mm false 2 2 (.t 129) (.c (.int .i64 5000))),o_ 131 (.bin .add .other 2 (.t 122) (.t 130)),o_ 132 (.faddr 0 6 6 (.t 1)),o_ 133 (.load 33 false 1 (.t 132)),o_ 134 (.mov (.t 7)),o_ 135 (.iaddr 33 10 (.t 133) (.t 134)),o_ 136 (.faddr 40 1 1 (.t 135)),o_ 137 (.load 9 true 8 (.t 136)),o_ 138 (.bslv 0 10 [.int .u8 0,.int .i64 0,.int .u32 0,.int .u32 0,.int .u8 0,.nils,.nils,.nils] 1 [(0,.t 137)]),o_ 139 (.callp 16 [.t 138,.c (.int .i64 3000),.c (.int .i64 0)]),o_ 140 (.bin .add .other 2 (.t 131) (.t 139)),o_ 3 (.asg (.t 140))] true [1,3,7])) (zlb)
def zkZ:ACode:=.seq (.seq (.reg 0 [o_ 115 (.mov (.t 7)),o_ 116 (.faddr 0 6 6 (.t 1)),o_ 117 (.load 33 false 1 (.t 116)),o_ 118 (.len 33 (.t 117)),o_ 119 (.bin .lss .other 2 (.t 115) (.t 118))] false [1,3,7,119]) (.cond (.t 119) (.skip) (.exit 6))) (zla)
def zkY:ACode:=.reg 0 [o_ 146 (.mov (.t 8)),o_ 147 (.bin .add .other 2 (.t 146) (.c (.int .i64 1))),o_ 8 (.asg (.t 147))] false [1,3,8]
def zkX:ACode:=.seq (.block 9 (.reg 1 [o_ 148 (.mov (.t 3)),o_ 149 (.faddr 0 7 7 (.t 1)),o_ 150 (.load 34 false 1 (.t 149)),o_ 151 (.mov (.t 8)),o_ 152 (.iaddr 34 10 (.t 150) (.t 151)),o_ 153 (.faddr 41 2 9 (.t 152)),o_ 154 (.load 36 false 1 (.t 153)),o_ 155 (.len 36 (.t 154)),o_ 156 (.mm false 2 2 (.t 155) (.c (.int .i64 5000))),o_ 157 (.bin .add .other 2 (.t 148) (.t 156)),o_ 158 (.faddr 0 7 7 (.t 1)),o_ 159 (.load 34 false 1 (.t 158)),o_ 160 (.mov (.t 8)),o_ 161 (.iaddr 34 10 (.t 159) (.t 160)),o_ 162 (.faddr 41 1 1 (.t 161)),o_ 163 (.load 9 true 8 (.t 162)),o_ 164 (.bslv 0 10 [.int .u8 0,.int .i64 0,.int .u32 0,.int .u32 0,.int .u8 0,.nils,.nils,.nils] 1 [(0,.t 163)]),o_ 165 (.callp 16 [.t 164,.c (.int .i64 3000),.c (.int .i64 0)]),o_ 166 (.bin .add .other 2 (.t 157) (.t 165)),o_ 3 (.asg (.t 166))] true [1,3,8])) (zkY)
def zkW:ACode:=.seq (.seq (.reg 0 [o_ 141 (.mov (.t 8)),o_ 142 (.faddr 0 7 7 (.t 1)),o_ 143 (.load 34 false 1 (.t 142)),o_ 144 (.len 34 (.t 143)),o_ 145 (.bin .lss .other 2 (.t 141) (.t 144))] false [1,3,8,145]) (.cond (.t 145) (.skip) (.exit 8))) (zkX)
def zkV:ACode:=.reg 0 [o_ 172 (.mov (.t 9)),o_ 173 (.bin .add .other 2 (.t 172) (.c (.int .i64 1))),o_ 9 (.asg (.t 173))] false [1,3,9]
def zkU:ACode:=.seq (.block 11 (.reg 1 [o_ 174 (.mov (.t 3)),o_ 175 (.faddr 0 4 4 (.t 1)),o_ 176 (.load 31 false 1 (.t 175)),o_ 177 (.mov (.t 9)),o_ 178 (.iaddr 31 10 (.t 176) (.t 177)),o_ 179 (.faddr 42 2 2 (.t 178)),o_ 180 (.load 9 true 8 (.t 179)),o_ 181 (.bslv 0 10 [.int .u8 0,.int .i64 0,.int .u32 0,.int .u32 0,.int .u8 0,.nils,.nils,.nils] 1 [(0,.t 180)]),o_ 182 (.callp 16 [.t 181,.c (.int .i64 3000),.c (.int .i64 0)]),o_ 183 (.bin .add .other 2 (.t 174) (.t 182)),o_ 3 (.asg (.t 183))] false [1,3,9])) (zkV)
def zkT:ACode:=.seq (.seq (.reg 0 [o_ 167 (.mov (.t 9)),o_ 168 (.faddr 0 4 4 (.t 1)),o_ 169 (.load 31 false 1 (.t 168)),o_ 170 (.len 31 (.t 169)),o_ 171 (.bin .lss .other 2 (.t 167) (.t 170))] false [1,3,9,171]) (.cond (.t 171) (.skip) (.exit 10))) (zkU)
def zkS:ACode:=.seq (.reg 0 [o_ 184 (.mov (.t 3)),o_ 185 (.bin .gtr .other 2 (.t 184) (.c (.int .i64 1000))),o_ 2 (.asg (.t 185))] false [2]) (.ret)
def zkR:ACode:=.seq (.seq (.reg 0 [o_ 9 (.asg (.c (.int .i64 0)))] false [1,3,9]) (.block 10 (.loop (zkT)))) (zkS)
def zkQ:ACode:=.seq (.seq (.reg 0 [o_ 8 (.asg (.c (.int .i64 0)))] false [1,3,8]) (.block 8 (.loop (zkW)))) (zkR)
def zkP:ACode:=.seq (.seq (.reg 0 [o_ 7 (.asg (.c (.int .i64 0)))] false [1,3,7]) (.block 6 (.loop (zkZ)))) (zkQ)
def zkO:ACode:=.seq (.seq (.reg 0 [o_ 6 (.asg (.c (.int .i64 0)))] false [1,3,6]) (.block 4 (.loop (zlc)))) (zkP)
def zkN:ACode:=.seq (.seq (.reg 0 [o_ 5 (.asg (.c (.int .i64 0)))] false [1,3,5]) (.block 2 (.loop (zlO)))) (zkO)
def zkM:ACode:=.seq (.seq (.reg 0 [o_ 4 (.asg (.c (.int .i64 0)))] false [1,3,4]) (.block 0 (.loop (zlR)))) (zkN)
def zkL:ACode:=.seq (.reg 0 [o_ 3 (.asg (.c (.int .i64 0)))] false [1,3]) (zkM)
def zkK:ACode:=.seq (.seq (.reg 0 [o_ 10 (.faddr 0 0 0 (.t 1)),o_ 11 (.load 28 false 1 (.t 10)),o_ 12 (.len 28 (.t 11)),o_ 13 (.bin .gtr .other 2 (.t 12) (.c (.int .i64 300))),o_ 14 (.mov (.t 13)),p_ 15 (.faddr 0 1 1 (.t 1)) 4 14 false,p_ 16 (.load 29 false 1 (.t 15)) 4 14 false,p_ 17 (.len 29 (.t 16)) 4 14 false,p_ 18 (.bin .gtr .other 2 (.t 17) (.c (.int .i64 300))) 4 14 false,o_ 19 (.pick (.t 14) (.c (.bool true)) (.t 18)),o_ 20 (.mov (.t 19)),p_ 21 (.faddr 0 2 2 (.t 1)) 10 20 false,p_ 22 (.load 30 false 1 (.t 21)) 10 20 false,p_ 23 (.len 30 (.t 22)) 10 20 false,p_ 24 (.bin .gtr .other 2 (.t 23) (.c (.int .i64 300))) 10 20 false,o_ 25 (.pick (.t 20) (.c (.bool true)) (.t 24)),o_ 26 (.mov (.t 25)),p_ 27 (.faddr 0 3 3 (.t 1)) 16 26 false,p_ 28 (.load 30 false 1 (.t 27)) 16 26 false,p_ 29 (.len 30 (.t 28)) 16 26 false,p_ 30 (.bin .gtr .other 2 (.t 29) (.c (.int .i64 300))) 16 26 false,o_ 31 (.pick (.t 26) (.c (.bool true)) (.t 30)),o_ 32 (.mov (.t 31)),p_ 33 (.faddr 0 4 4 (.t 1)) 22 32 false,p_ 34 (.load 31 false 1 (.t 33)) 22 32 false,p_ 35 (.len 31 (.t 34)) 22 32 false,p_ 36 (.bin .gtr .other 2 (.t 35) (.c (.int .i64 300))) 22 32 false,o_ 37 (.pick (.t 32) (.c (.bool true)) (.t 36)),o_ 38 (.mov (.t 37)),p_ 39 (.faddr 0 5 5 (.t 1)) 28 38 false,p_ 40 (.load 32 false 1 (.t 39)) 28 38 false,p_ 41 (.len 32 (.t 40)) 28 38 false,p_ 42 (.bin .gtr .other 2 (.t 41) (.c (.int .i64 300))) 28 38 false,o_ 43 (.pick (.t 38) (.c (.bool true)) (.t 42)),o_ 44 (.mov (.t 43)),p_ 45 (.faddr 0 6 6 (.t 1)) 34 44 false,p_ 46 (.load 33 false 1 (.t 45)) 34 44 false,p_ 47 (.len 33 (.t 46)) 34 44 false,p_ 48 (.bin .gtr .other 2 (.t 47) (.c (.int .i64 300))) 34 44 false,o_ 49 (.pick (.t 44) (.c (.bool true)) (.t 48)),o_ 50 (.mov (.t 49)),p_ 51 (.faddr 0 7 7 (.t 1)) 40 50 false,p_ 52 (.load 34 false 1 (.t 51)) 40 50 false,p_ 53 (.len 34 (.t 52)) 40 50 false,p_ 54 (.bin .gtr .other 2 (.t 53) (.c (.int .i64 300))) 40 50 false,o_ 55 (.pick (.t 50) (.c (.bool true)) (.t 54))] false [1,55]) (zlU)) (zkL)
def zkJ:ACode:=.seq (.reg 1 [o_ 1 (.box 0 0 (.t 0)),o_ 2 (.asg (.c (.bool false)))] false [1]) (zkK)
def ziv:AFun:={ nt:=186,res:=[.t 2],code:=(zkJ) }
def zsl:ACode:=.seq (.reg 0 [o_ 27 (.mov (.t 3)),o_ 28 (.bin .eql .iface 8 (.t 27) (.c .nili)),o_ 29 (.mov (.t 28)),p_ 30 (.mov (.t 2)) 2 29 true,p_ 31 (.bin .eql .other 2 (.t 30) (.c (.int .i64 0))) 2 29 true,o_ 32 (.pick (.t 29) (.t 31) (.c (.bool false))),o_ 33 (.mov (.t 32)),p_ 34 (.load 1 true 8 (.t 1)) 6 33 true,p_ 35 (.callp 6 [.t 34,.c (.int .i64 0)]) 6 33 true,p_ 36 (.bin .eql .iface 8 (.t 35) (.c .nili)) 6 33 true,o_ 37 (.pick (.t 33) (.t 36) (.c (.bool false))),o_ 38 (.mov (.t 37)),p_ 39 (.load 1 true 8 (.t 1)) 11 38 true,p_ 40 (.callp 6 [.t 39,.c (.int .i64 1)]) 11 38 true,p_ 41 (.callp 9 [.t 40]) 11 38 true,p_ 42 (.bin .eql .other 2 (.t 41) (.c (.int .i64 7))) 11 38 true,o_ 43 (.pick (.t 38) (.t 42) (.c (.bool false))),o_ 44 (.mov (.t 43)),p_ 45 (.mov (.t 4)) 17 44 true,p_ 46 (.bin .eql .other 2 (.t 45) (.c (.int .i64 1))) 17 44 true,o_ 47 (.pick (.t 44) (.t 46) (.c (.bool false))),o_ 48 (.mov (.t 47)),p_ 49 (.mov (.t 5)) 21 48 true,p_ 50 (.callp 9 [.t 49]) 21 48 true,p_ 51 (.bin .eql .other 2 (.t 50) (.c (.int .i64 7))) 21 48 true,o_ 52 (.pick (.t 48) (.t 51) (.c (.bool false))),o_ 0 (.asg (.t 52))] false [0]) (.ret)
def zsk:ACode:=.seq (.reg 0 [o_ 23 (.load 1 true 8 (.t 1)),o_ 24 (.callp 4 [.t 23]),o_ 22 (.mov (.t 24)),o_ 25 (.ext (.t 22) 0),o_ 26 (.ext (.t 22) 1),o_ 4 (.asg (.t 25)),o_ 5 (.asg (.t 26))] false [1,2,3,4,5]) (zsl)
def zsj:ACode:=.seq (.reg 0 [o_ 18 (.load 1 true 8 (.t 1)),o_ 19 (.callp 7 [.t 18,.c (.int .i64 0)]),o_ 17 (.mov (.t 19)),o_ 20 (.ext (.t 17) 0),o_ 21 (.ext (.t 17) 1),o_ 2 (.asg (.t 20)),o_ 3 (.asg (.t 21))] false [1,2,3]) (zsk)
def zsi:ACode:=.seq (.reg 5 [o_ 6 (.build 43 [.nils,.int .u8 0] []),o_ 7 (.bslice 0 17 [.nils,.int .u8 0] 1 [(0,.t 6)]),o_ 8 (.build 3 [.int .u8 0,.int .i64 0,.int .u32 0,.int .u32 0,.int .u8 0,.nils,.nils,.nils] [(0,0,1,.c (.int .u8 0))]),o_ 9 (.build 3 [.int .u8 0,.int .i64 0,.int .u32 0,.int .u32 0,.int .u8 0,.nils,.nils,.nils] [(0,0,1,.c (.int .u8 26))]),o_ 10 (.bslice 1 4 [.int .u8 0,.int .i64 0,.int .u32 0,.int .u32 0,.int .u8 0,.nils,.nils,.nils] 2 [(0,.t 8),(1,.t 9)]),o_ 11 (.build 6 [.int .u32 0,.nils,.nils] [(2,2,1,.t 10)]),o_ 12 (.build 3 [.int .u8 0,.int .i64 0,.int .u32 0,.int .u32 0,.int .u8 0,.nils,.nils,.nils] [(0,0,1,.c (.int .u8 26))]),o_ 13 (.bslice 2 4 [.int .u8 0,.int .i64 0,.int .u32 0,.int .u32 0,.int .u8 0,.nils,.nils,.nils] 1 [(0,.t 12)]),o_ 14 (.build 6 [.int .u32 0,.nils,.nils] [(2,2,1,.t 13)]),o_ 15 (.bslice 3 5 [.int .u32 0,.nils,.nils] 2 [(0,.t 11),(1,.t 14)]),o_ 16 (.build 1 [.nils,.nils,.nils,.nils,.nils,.nils,.nils,.nils] [(0,0,1,.t 7),(1,1,1,.t 15)]),o_ 1 (.alloc 4 1 [.nils,.nils,.nils,.nils,.nils,.nils,.nils,.nils]),⟨none,.store 1 8 (.t 1) (.t 16),none⟩] false [1]) (zsj)
def zsh:ACode:=.seq (.reg 0 [o_ 0 (.asg (.c (.bool false)))] false []) (zsi)
def zor:AFun:={ nt:=53,res:=[.t 0],code:=(zsh) }
def zkI:ACode:=.reg 0 [o_ 17 (.mov (.t 4)),o_ 18 (.bin .add .other 2 (.t 17) (.c (.int .i64 1))),o_ 4 (.asg (.t 18))] false [1,2,3,4]
def zkH:ACode:=.seq (.block 1 (.reg 2 [o_ 19 (.faddr 1 0 0 (.t 3)),o_ 20 (.load 17 false 1 (.t 19)),o_ 21 (.faddr 0 0 0 (.t 1)),o_ 22 (.load 28 false 1 (.t 21)),o_ 23 (.mov (.t 4)),o_ 24 (.iaddr 28 2 (.t 22) (.t 23)),o_ 25 (.faddr 35 0 0 (.t 24)),o_ 26 (.load 36 false 1 (.t 25)),o_ 27 (.callp 17 [.t 26]),o_ 28 (.faddr 0 0 0 (.t 1)),o_ 29 (.load 28 false 1 (.t 28)),o_ 30 (.mov (.t 4)),o_ 31 (.iaddr 28 2 (.t 29) (.t 30)),o_ 32 (.faddr 35 1 1 (.t 31)),o_ 33 (.load 7 false 1 (.t 32)),o_ 34 (.build 43 [.nils,.int .u8 0] [(0,0,1,.t 27),(1,1,1,.t 33)]),o_ 35 (.bslv 0 17 [.nils,.int .u8 0] 1 [(0,.t 34)]),o_ 36 (.app 1 17 2 32 (.t 20) (.t 35)),o_ 37 (.faddr 1 0 0 (.t 3)),⟨none,.store 17 1 (.t 37) (.t 36),none⟩] true [1,2,3,4])) (zkI)
def zkG:ACode:=.seq (.seq (.reg 0 [o_ 12 (.mov (.t 4)),o_ 13 (.faddr 0 0 0 (.t 1)),o_ 14 (.load 28 false 1 (.t 13)),o_ 15 (.len 28 (.t 14)),o_ 16 (.bin .lss .other 2 (.t 12) (.t 15))] false [1,2,3,4,16]) (.cond (.t 16) (.skip) (.exit 0))) (zkH)
def zkF:ACode:=.reg 0 [o_ 43 (.mov (.t 5)),o_ 44 (.bin .add .other 2 (.t 43) (.c (.int .i64 1))),o_ 5 (.asg (.t 44))] false [1,2,3,5]
def zkE:ACode:=.seq (.block 3 (.reg 2 [o_ 45 (.faddr 1 1 1 (.t 3)),o_ 46 (.load 5 false 1 (.t 45)),o_ 47 (.faddr 0 1 1 (.t 1)),o_ 48 (.load 29 false 1 (.t 47)),o_ 49 (.mov (.t 5)),o_ 50 (.iaddr 29 3 (.t 48) (.t 49)),o_ 51 (.faddr 37 0 0 (.t 50)),o_ 52 (.load 13 false 1 (.t 51)),o_ 53 (.faddr 0 1 1 (.t 1)),o_ 54 (.load 29 false 1 (.t 53)),o_ 55 (.mov (.t 5)),o_ 56 (.iaddr 29 3 (.t 54) (.t 55)),o_ 57 (.faddr 37 1 1 (.t 56)),o_ 58 (.load 36 false 1 (.t 57)),o_ 59 (.callp 17 [.t 58]),o_ 60 (.faddr 0 1 1 (.t 1)),o_ 61 (.load 29 false 1 (.t 60)),o_ 62 (.mov (.t 5)),o_ 63 (.iaddr 29 3 (.t 61) (.t 62)),o_ 64 (.faddr 37 2 2 (.t 63)),o_ 65 (.load 10 false 1 (.t 64)),o_ 66 (.callp 18 [.t 65]),o_ 67 (.build 6 [.int .u32 0,.nils,.nils] [(0,0,1,.t 52),(1,1,1,.t 59),(2,2,1,.t 66)]),o_ 68 (.bslv 0 5 [.int .u32 0,.nils,.nils] 1 [(0,.t 67)]),o_ 69 (.app 1 5 3 56 (.t 46) (.t 68)),o_ 70 (.faddr 1 1 1 (.t 3)),⟨none,.store 5 1 (.t 70) (.t 69),none⟩] true [1,2,3,5])) (zkF)
def zkD:ACode:=.seq (.seq (.reg 0 [o_ 38 (.mov (.t 5)),o_ 39 (.faddr 0 1 1 (.t 1)),o_ 40 (.load 29 false 1 (.t 39)),o_ 41 (.len 29 (.t 40)),o_ 42 (.bin .lss .other 2 (.t 38) (.t 41))] false [1,2,3,5,42]) (.cond (.t 42) (.skip) (.exit 2))) (zkE)
def zkC:ACode:=.reg 0 [o_ 76 (.mov (.t 6)),o_ 77 (.bin .add .other 2 (.t 76) (.c (.int .i64 1))),o_ 6 (.asg (.t 77))] false [1,2,3,6]
def zkB:ACode:=.seq (.block 5 (.reg 2 [o_ 78 (.faddr 1 2 2 (.t 3)),o_ 79 (.load 18 false 1 (.t 78)),o_ 80 (.faddr 0 2 2 (.t 1)),o_ 81 (.load 30 false 1 (.t 80)),o_ 82 (.mov (.t 6)),o_ 83 (.iaddr 30 3 (.t 81) (.t 82)),o_ 84 (.load 44 true 3 (.t 83)),o_ 85 (.bslv 0 18 [.int .u32 0,.bool false,.int .u32 0] 1 [(0,.t 84)]),o_ 86 (.app 1 18 3 12 (.t 79) (.t 85)),o_ 87 (.faddr 1 2 2 (.t 3)),⟨none,.store 18 1 (.t 87) (.t 86),none⟩] true [1,2,3,6])) (zkC)
def zkA:ACode:=.seq (.seq (.reg 0 [o_ 71 (.mov (.t 6)),o_ 72 (.faddr 0 2 2 (.t 1)),o_ 73 (.load 30 false 1 (.t 72)),o_ 74 (.len 30 (.t 73)),o_ 75 (.bin .lss .other 2 (.t 71) (.t 74))] false [1,2,3,6,75]) (.cond (.t 75) (.skip) (.exit 4))) (zkB)
def zjV:ACode:=.reg 0 [o_ 93 (.mov (.t 7)),o_ 94 (.bin .add .other 2 (.t 93) (.c (.int .i64 1))),o_ 7 (.asg (.t 94))] false [1,2,3,7]
def zjU:ACode:=.seq (.block 7 (.reg 2 [o_ 95 (.faddr 1 3 3 (.t 3)),o_ 96 (.load 18 false 1 (.t 95)),o_ 97 (.faddr 0 3 3 (.t 1)),o_ 98 (.load 30 false 1 (.t 97)),o_ 99 (.mov (.t 7)),o_ 100 (.iaddr 30 3 (.t 98) (.t 99)),o_ 101 (.load 44 true 3 (.t 100)),o_ 102 (.bslv 0 18 [.int .u32 0,.bool false,.int .u32 0] 1 [(0,.t 101)]),o_ 103 (.app 1 18 3 12 (.t 96) (.t 102)),o_ 104 (.faddr 1 3 3 (.t 3)),⟨none,.store 18 1 (.t 104) (.t 103),none⟩] true [1,2,3,7])) (zjV)
def zjT:ACode:=.seq (.seq (.reg 0 [o_ 88 (.mov (.t 7)),o_ 89 (.faddr 0 3 3 (.t 1)),o_ 90 (.load 30 false 1 (.t 89)),o_ 91 (.len 30 (.t 90)),o_ 92 (.bin .lss .other 2 (.t 88) (.t 91))] false [1,2,3,7,92]) (.cond (.t 92) (.skip) (.exit 6))) (zjU)
def zjS:ACode:=.reg 0 [o_ 110 (.mov (.t 8)),o_ 111 (.bin .add .other 2 (.t 110) (.c (.int .i64 1))),o_ 8 (.asg (.t 111))] false [1,2,3,8]
def zjR:ACode:=.seq (.block 9 (.reg 2 [o_ 112 (.faddr 1 4 4 (.t 3)),o_ 113 (.load 20 false 1 (.t 112)),o_ 114 (.faddr 0 4 4 (.t 1)),o_ 115 (.load 31 false 1 (.t 114)),o_ 116 (.mov (.t 8)),o_ 117 (.iaddr 31 10 (.t 115) (.t 116)),o_ 118 (.faddr 42 0 0 (.t 117)),o_ 119 (.load 7 false 1 (.t 118)),o_ 120 (.faddr 0 4 4 (.t 1)),o_ 121 (.load 31 false 1 (.t 120)),o_ 122 (.mov (.t 8)),o_ 123 (.iaddr 31 10 (.t 121) (.t 122)),o_ 124 (.faddr 42 1 1 (.t 123)),o_ 125 (.load 12 false 1 (.t 124)),o_ 126 (.faddr 0 4 4 (.t 1)),o_ 127 (.load 31 false 1 (.t 126)),o_ 128 (.mov (.t 8)),o_ 129 (.iaddr 31 10 (.t 127) (.t 128)),o_ 130 (.faddr 42 2 2 (.t 129)),o_ 131 (.load 9 true 8 (.t 130)),o_ 132 (.callp 19 [.t 131]),o_ 133 (.build 21 [.int .u8 0,.bool false,.int .u8 0,.int .i64 0,.int .u32 0,.int .u32 0,.int .u8 0,.nils,.nils,.nils] [(0,0,1,.t 119),(1,1,1,.t 125),(2,2,8,.t 132)]),o_ 134 (.bslv 0 20 [.int .u8 0,.bool false,.int .u8 0,.int .i64 0,.int .u32 0,.int .u32 0,.int .u8 0,.nils,.nils,.nils] 1 [(0,.t 133)]),o_ 135 (.app 1 20 10 112 (.t 113) (.t 134)),o_ 136 (.faddr 1 4 4 (.t 3)),⟨none,.store 20 1 (.t 136) (.t 135),none⟩] true [1,2,3,8])) (zjS)
def zjQ:ACode:=.seq (.seq (.reg 0 [o_ 105 (.mov (.t 8)),o_ 106 (.faddr 0 4 4 (.t 1)),o_ 107 (.load 31 false 1 (.t 106)),o_ 108 (.len 31 (.t 107)),o_ 109 (.bin .lss .other 2 (.t 105) (.t 108))] false [1,2,3,8,109]) (.cond (.t 109) (.skip) (.exit 8))) (zjR)
def zjP:ACode:=.reg 0 [o_ 142 (.mov (.t 9)),o_ 143 (.bin .add .other 2 (.t 142) (.c (.int .i64 1))),o_ 9 (.asg (.t 143))] false [1,2,3,9]
def zjO:ACode:=.seq (.block 11 (.reg 2 [o_ 144 (.faddr 1 5 5 (.t 3)),o_ 145 (.load 15 false 1 (.t 144)),o_ 146 (.faddr 0 5 5 (.t 1)),o_ 147 (.load 32 false 1 (.t 146)),o_ 148 (.mov (.t 9)),o_ 149 (.iaddr 32 3 (.t 147) (.t 148)),o_ 150 (.load 38 true 3 (.t 149)),o_ 151 (.bslv 0 15 [.str b156_,.int .u8 0,.int .u32 0] 1 [(0,.t 150)]),o_ 152 (.app 1 15 3 24 (.t 145) (.t 151)),o_ 153 (.faddr 1 5 5 (.t 3)),⟨none,.store 15 1 (.t 153) (.t 152),none⟩] true [1,2,3,9])) (zjP)
def zjN:ACode:=.seq (.seq (.reg 0 [o_ 137 (.mov (.t 9)),o_ 138 (.faddr 0 5 5 (.t 1)),o_ 139 (.load 32 false 1 (.t 138)),o_ 140 (.len 32 (.t 139)),o_ 141 (.bin .lss .other 2 (.t 137) (.t 140))] false [1,2,3,9,141]) (.cond (.t 141) (.skip) (.exit 10))) (zjO)
def zjM:ACode:=.reg 0 [o_ 159 (.mov (.t 10)),o_ 160 (.bin .add .other 2 (.t 159) (.c (.int .i64 1))),o_ 10 (.asg (.t 160))] false [1,2,3,10]
def zjL:ACode:=.seq (.block 13 (.reg 2 [o_ 161 (.faddr 1 6 6 (.t 3)),o_ 162 (.load 22 false 1 (.t 161)),o_ 163 (.faddr 0 6 6 (.t 1)),o_ 164 (.load 33 false 1 (.t 163)),o_ 165 (.mov (.t 10)),o_ 166 (.iaddr 33 10 (.t 164) (.t 165)),o_ 167 (.faddr 40 0 0 (.t 166)),o_ 168 (.load 13 false 1 (.t 167)),o_ 169 (.faddr 0 6 6 (.t 1)),o_ 170 (.load 33 false 1 (.t 169)),o_ 171 (.mov (.t 10)),o_ 172 (.iaddr 33 10 (.t 170) (.t 171)),o_ 173 (.faddr 40 1 1 (.t 172)),o_ 174 (.load 9 true 8 (.t 173)),o_ 175 (.callp 19 [.t 174]),o_ 176 (.faddr 0 6 6 (.t 1)),o_ 177 (.load 33 false 1 (.t 176)),o_ 178 (.mov (.t 10)),o_ 179 (.iaddr 33 10 (.t 177) (.t 178)),o_ 180 (.faddr 40 2 9 (.t 179)),o_ 181 (.load 23 false 1 (.t 180)),o_ 182 (.build 24 [.int .u32 0,.int .u8 0,.int .i64 0,.int .u32 0,.int .u32 0,.int .u8 0,.nils,.nils,.nils,.nils] [(0,0,1,.t 168),(1,1,8,.t 175),(2,9,1,.t 181)]),o_ 183 (.bslv 0 22 [.int .u32 0,.int .u8 0,.int .i64 0,.int .u32 0,.int .u32 0,.int .u8 0,.nils,.nils,.nils,.nils] 1 [(0,.t 182)]),o_ 184 (.app 1 22 10 136 (.t 162) (.t 183)),o_ 185 (.faddr 1 6 6 (.t 3)),⟨none,.store 22 1 (.t 185) (.t 184),none⟩] true [1,2,3,10])) (zjM)
def zjK:ACode:=.seq (.seq (.reg 0 [o_ 154 (.mov (.t 10)),o_ 155 (.faddr 0 6 6 (.t 1)),o_ 156 (.load 33 false 1 (.t 155)),o_ 157 (.len 33 (.t 156)),o_ 158 (.bin .lss .other 2 (.t 154) (.t 157))] false [1,2,3,10,158]) (.cond (.t 158) (.skip) (.exit 12))) (zjL)
def zjJ:ACode:=.reg 0 [o_ 191 (.mov (.t 11)),o_ 192 (.bin .add .other 2 (.t 191) (.c (.int .i64 1))),o_ 11 (.asg (.t 192))] false [1,2,3,11]
def zjI:ACode:=.seq (.block 15 (.reg 2 [o_ 193 (.faddr 1 7 7 (.t 3)),o_ 194 (.load 25 false 1 (.t 193)),o_ 195 (.faddr 0 7 7 (.t 1)),o_ 196 (.load 34 false 1 (.t 195)),o_ 197 (.mov (.t 11)),o_ 198 (.iaddr 34 10 (.t 196) (.t 197)),o_ 199 (.faddr 41 0 0 (.t 198)),o_ 200 (.load 13 false 1 (.t 199)),o_ 201 (.faddr 0 7 7 (.t 1)),o_ 202 (.load 34 false 1 (.t 201)),o_ 203 (.mov (.t 11)),o_ 204 (.iaddr 34 10 (.t 202) (.t 203)),o_ 205 (.faddr 41 1 1 (.t 204)),o_ 206 (.load 9 true 8 (.t 205)),o_ 207 (.callp 19 [.t 206]),o_ 208 (.faddr 0 7 7 (.t 1)),o_ 209 (.load 34 false 1 (.t 208)),o_ 210 (.mov (.t 11)),o_ 211 (.iaddr 34 10 (.t 209) (.t 210)),o_ 212 (.faddr 41 2 9 (.t 211)),o_ 213 (.load 36 false 1 (.t 212)),o_ 214 (.build 26 [.int .u32 0,.int .u8 0,.int .i64 0,.int .u32 0,.int .u32 0,.int .u8 0,.nils,.nils,.nils,.nils] [(0,0,1,.t 200),(1,1,8,.t 207),(2,9,1,.t 213)]),o_ 215 (.bslv 0 25 [.int .u32 0,.int .u8 0,.int .i64 0,.int .u32 0,.int .u32 0,.int .u8 0,.nils,.nils,.nils,.nils] 1 [(0,.t 214)]),o_ 216 (.app 1 25 10 136 (.t 194) (.t 215)),o_ 217 (.faddr 1 7 7 (.t 3)),⟨none,.store 25 1 (.t 217) (.t 216),none⟩] true [1,2,3,11])) (zjJ)
def zjH:ACode:=.seq (.seq (.reg 0 [o_ 186 (.mov (.t 11)),o_ 187 (.faddr 0 7 7 (.t 1)),o_ 188 (.load 34 false 1 (.t 187)),o_ 189 (.len 34 (.t 188)),o_ 190 (.bin .lss .other 2 (.t 186) (.t 189))] false [1,2,3,11,190]) (.cond (.t 190) (.skip) (.exit 14))) (zjI)
def zjG:ACode:=.seq (.reg 0 [o_ 218 (.load 1 true 8 (.t 3)),⟨none,.store 1 8 (.t 2) (.t 218),none⟩] false [2]) (.ret)
def zjF:ACode:=.seq (.seq (.reg 0 [o_ 11 (.asg (.c (.int .i64 0)))] false [1,2,3,11]) (.block 14 (.loop (zjH)))) (zjG)
def zjE:ACode:=.seq (.seq (.reg 0 [o_ 10 (.asg (.c (.int .i64 0)))] false [1,2,3,10]) (.block 12 (.loop (zjK)))) (zjF)
def zjD:ACode:=.seq (.seq (.reg 0 [o_ 9 (.asg (.c (.int .i64 0)))] false [1,2,3,9]) (.block 10 (.loop (zjN)))) (zjE)
def zjC:ACode:=.seq (.seq (.reg 0 [o_ 8 (.asg (.c (.int .i64 0)))] false [1,2,3,8]) (.block 8 (.loop (zjQ)))) (zjD)
def zjB:ACode:=.seq (.seq (.reg 0 [o_ 7 (.asg (.c (.int .i64 0)))] false [1,2,3,7]) (.block 6 (.loop (zjT)))) (zjC)
def zjA:ACode:=.seq (.seq (.reg 0 [o_ 6 (.asg (.c (.int .i64 0)))] false [1,2,3,6]) (.block 4 (.loop (zkA)))) (zjB)
def zjz:ACode:=.seq (.seq (.reg 0 [o_ 5 (.asg (.c (.int .i64 0)))] false [1,2,3,5]) (.block 2 (.loop (zkD)))) (zjA)
def zjy:ACode:=.seq (.seq (.reg 0 [o_ 4 (.asg (.c (.int .i64 0)))] false [1,2,3,4]) (.block 0 (.loop (zkG)))) (zjz)
def zjx:ACode:=.seq (.reg 1 [o_ 3 (.alloc 0 1 [.nils,.nils,.nils,.nils,.nils,.nils,.nils,.nils])] false [1,2,3]) (zjy)
def zjw:ACode:=.seq (.reg 2 [o_ 1 (.box 0 0 (.t 0)),o_ 2 (.alloc 1 1 [.nils,.nils,.nils,.nils,.nils,.nils,.nils,.nils])] false [1,2]) (zjx)
def zgT:AFun:={ nt:=219,res:=[.cell 2 1 true 8],code:=(zjw) }
def zph:ACode:=.cond (.t 21) (.seq (.reg 0 [o_ 25 (.mkif 45 (.c (.int .i64 7))),o_ 2 (.asg (.c (.int .i64 (-1)))),o_ 3 (.asg (.t 25))] false [2,3]) (.ret)) (.skip)
def zpg:ACode:=.cond (.t 7) (.seq (.reg 0 [o_ 20 (.mkif 45 (.c (.int .i64 9))),o_ 2 (.asg (.c (.int .i64 (-1)))),o_ 3 (.asg (.t 20))] false [2,3]) (.ret)) (.seq (.reg 0 [o_ 22 (.load 1 true 8 (.t 1)),o_ 23 (.callp 22 [.t 22]),o_ 24 (.un .not (.t 23)),o_ 21 (.asg (.t 24))] false [1,21]) (zph))
def zpf:ACode:=.cond (.t 36) (.seq (.reg 0 [o_ 37 (.mov (.t 5)),o_ 38 (.mkif 45 (.c (.int .i64 7))),o_ 2 (.asg (.t 37)),o_ 3 (.asg (.t 38))] false [2,3]) (.ret)) (.skip)
def zpe:ACode:=.seq (.reg 0 [o_ 35 (.mov (.t 6)),o_ 36 (.bin .neq .iface 8 (.t 35) (.c .nili))] false [1,5,28,29,36]) (zpf)
def zpd:ACode:=.seq (.reg 0 [o_ 32 (.load 1 true 8 (.t 1)),o_ 33 (.mov (.t 5)),o_ 34 (.callp 6 [.t 32,.t 33]),o_ 6 (.asg (.t 34))] false [1,5,6,28,29]) (zpe)
def zpc:ACode:=.reg 0 [o_ 39 (.bin .add .other 2 (.t 29) (.c (.int .i64 1))),o_ 29 (.mov (.t 39))] false [1,28,29]
def zpb:ACode:=.seq (.block 2 (.seq (.reg 0 [o_ 31 (.mov (.t 29)),o_ 5 (.asg (.t 31))] false [1,5,28,29]) (zpd))) (zpc)
def zpa:ACode:=.seq (.reg 0 [o_ 30 (.bin .lss .other 2 (.t 29) (.t 28))] false [1,28,29,30]) (.seq (.cond (.t 30) (.skip) (.exit 1)) (zpb))
def zoZ:ACode:=.seq (.reg 0 [o_ 2 (.asg (.c (.int .i64 (-1)))),o_ 3 (.asg (.c .nili))] false [2,3]) (.ret)
def znN:ACode:=.seq (.seq (.reg 0 [o_ 26 (.faddr 1 1 1 (.t 1)),o_ 27 (.load 5 false 1 (.t 26)),o_ 28 (.len 5 (.t 27)),o_ 29 (.mov (.c (.int .i64 0)))] false [1,28,29]) (.block 1 (.loop (zpa)))) (zoZ)
def znM:ACode:=.seq (.block 0 (.seq (.reg 0 [o_ 8 (.faddr 1 2 2 (.t 1)),o_ 9 (.load 18 false 1 (.t 8)),o_ 10 (.mov (.t 4)),o_ 11 (.callv (.t 10) [.c (.int .u32 256)]),o_ 12 (.callp 21 [.t 9,.t 11]),o_ 13 (.mov (.t 12)),p_ 14 (.faddr 1 3 3 (.t 1)) 5 13 false,p_ 15 (.load 18 false 1 (.t 14)) 5 13 false,p_ 16 (.mov (.t 4)) 5 13 false,p_ 17 (.callv (.t 16) [.c (.int .u32 16)]) 5 13 false,p_ 18 (.callp 21 [.t 15,.t 17]) 5 13 false,o_ 19 (.pick (.t 13) (.c (.bool true)) (.t 18)),o_ 7 (.asg (.t 19))] true [1,7]) (zpg))) (znN)
def znL:ACode:=.seq (.reg 0 [o_ 4 (.asg (.f 20))] false [1,4]) (znM)
def znK:ACode:=.seq (.reg 1 [o_ 1 (.box 0 1 (.t 0)),o_ 2 (.asg (.c (.int .i64 0))),o_ 3 (.asg (.c .nili))] false [1]) (znL)
def ziY:AFun:={ nt:=40,res:=[.t 2,.t 3],code:=(znK) }
def zro:ACode:=.seq (.reg 0 [o_ 13 (.mov (.t 6)),o_ 4 (.asg (.t 13))] false [4]) (.ret)
def zrn:ACode:=.seq (.reg 0 [o_ 8 (.load 1 true 8 (.t 2)),o_ 9 (.mov (.t 1)),o_ 10 (.callp 24 [.t 8,.t 9]),o_ 7 (.mov (.t 10)),o_ 11 (.ext (.t 7) 0),o_ 12 (.ext (.t 7) 1),o_ 5 (.asg (.t 11)),o_ 6 (.asg (.t 12))] false [6]) (zro)
def zrm:ACode:=.seq (.reg 1 [o_ 2 (.box 0 1 (.t 0)),o_ 4 (.asg (.c .nili))] false [1,2]) (zrn)
def zkw:AFun:={ nt:=14,res:=[.t 4],code:=(zrm) }
def znJ:ACode:=.cond (.t 15) (.seq (.reg 0 [o_ 16 (.mov (.t 7)),o_ 4 (.asg (.c (.int .i64 0))),o_ 5 (.asg (.t 16))] false [4,5]) (.ret)) (.skip)
def znI:ACode:=.seq (.reg 0 [o_ 17 (.mov (.t 6)),o_ 18 (.nilchk (.t 17)),o_ 19 (.faddr 46 6 14 (.t 18)),o_ 20 (.load 2 false 1 (.t 19)),o_ 4 (.asg (.t 20)),o_ 5 (.asg (.c .nili))] false [4,5]) (.ret)
def znH:ACode:=.seq (.seq (.reg 0 [o_ 14 (.mov (.t 7)),o_ 15 (.bin .neq .iface 8 (.t 14) (.c .nili))] false [6,7,15]) (znJ)) (znI)
def znG:ACode:=.seq (.reg 0 [o_ 9 (.load 1 true 8 (.t 2)),o_ 10 (.mov (.t 1)),o_ 11 (.callp 24 [.t 9,.t 10]),o_ 8 (.mov (.t 11)),o_ 12 (.ext (.t 8) 0),o_ 13 (.ext (.t 8) 1),o_ 6 (.asg (.t 12)),o_ 7 (.asg (.t 13))] false [6,7]) (znH)
def znF:ACode:=.seq (.reg 1 [o_ 2 (.box 0 1 (.t 0)),o_ 4 (.asg (.c (.int .i64 0))),o_ 5 (.asg (.c .nili))] false [1,2]) (znG)
def zmc:AFun:={ nt:=21,res:=[.t 4,.t 5],code:=(znF) }
def zta:ACode:=.cond (.t 5) (.seq (.reg 0 [o_ 2 (.asg (.c (.int .i64 0)))] false [2]) (.ret)) (.skip)
def zsZ:ACode:=.cond (.t 8) (.seq (.reg 0 [o_ 9 (.load 45 false 1 (.t 3)),o_ 2 (.asg (.t 9))] false [2]) (.ret)) (.skip)
def zsY:ACode:=.seq (.reg 0 [o_ 2 (.asg (.c (.int .i64 (-1))))] false [2]) (.ret)
def zsX:ACode:=.seq (.seq (.reg 0 [o_ 6 (.mov (.t 0)),o_ 7 (.mkif 49 (.t 3)),o_ 8 (.callp 28 [.t 6,.t 7])] false [3,8]) (zsZ)) (zsY)
def zsW:ACode:=.seq (.seq (.reg 0 [o_ 4 (.mov (.t 0)),o_ 5 (.bin .eql .iface 8 (.t 4) (.c .nili))] false [0,3,5]) (zta)) (zsX)
def zsV:ACode:=.seq (.reg 1 [o_ 3 (.alloc 0 45 [.int .i64 0])] false [0,3]) (zsW)
def zsU:ACode:=.seq (.reg 0 [o_ 2 (.asg (.c (.int .i64 0)))] false [0]) (zsV)
def zsn:AFun:={ nt:=10,res:=[.t 2],code:=(zsU) }
def zlL:ACode:=.cond (.t 16) (.seq (.reg 0 [o_ 17 (.mov (.t 1)),o_ 6 (.asg (.t 17))] false [6]) (.ret)) (.skip)
def zlK:ACode:=.reg 0 [o_ 29 (.mov (.t 8)),o_ 30 (.bin .add .other 2 (.t 29) (.c (.int .i64 1))),o_ 8 (.asg (.t 30))] false [0,1,2,7,8]
def zlJ:ACode:=.seq (.block 1 (.reg 0 [o_ 31 (.mov (.t 7)),o_ 32 (.mov (.t 0)),o_ 33 (.mov (.t 8)),o_ 34 (.iaddr 10 8 (.t 32) (.t 33)),o_ 35 (.faddr 9 7 7 (.t 34)),o_ 36 (.load 23 false 1 (.t 35)),o_ 37 (.len 23 (.t 36)),o_ 38 (.mov (.t 1)),o_ 39 (.mm false 2 2 (.t 37) (.t 38)),o_ 40 (.bin .add .other 2 (.t 31) (.t 39)),o_ 41 (.mov (.t 0)),o_ 42 (.mov (.t 8)),o_ 43 (.iaddr 10 8 (.t 41) (.t 42)),o_ 44 (.faddr 9 5 5 (.t 43)),o_ 45 (.load 10 false 1 (.t 44)),o_ 46 (.mov (.t 1)),o_ 47 (.mov (.t 2)),o_ 48 (.bin .add .other 2 (.t 47) (.c (.int .i64 1))),o_ 49 (.callp 16 [.t 45,.t 46,.t 48]),o_ 50 (.bin .add .other 2 (.t 40) (.t 49)),o_ 51 (.mov (.t 0)),o_ 52 (.mov (.t 8)),o_ 53 (.iaddr 10 8 (.t 51) (.t 52)),o_ 54 (.faddr 9 6 6 (.t 53)),o_ 55 (.load 10 false 1 (.t 54)),o_ 56 (.mov (.t 1)),o_ 57 (.mov (.t 2)),o_ 58 (.bin .add .other 2 (.t 57) (.c (.int .i64 1))),o_ 59 (.callp 16 [.t 55,.t 56,.t 58]),o_ 60 (.bin .add .other 2 (.t 50) (.t 59)),o_ 7 (.asg (.t 60))] true [0,1,2,7,8])) (zlK)
def zlI:ACode:=.seq (.seq (.reg 0 [o_ 20 (.mov (.t 8)),o_ 21 (.mov (.t 0)),o_ 22 (.len 10 (.t 21)),o_ 23 (.bin .lss .other 2 (.t 20) (.t 22)),o_ 24 (.mov (.t 23)),p_ 25 (.mov (.t 7)) 4 24 true,p_ 26 (.mov (.t 1)) 4 24 true,p_ 27 (.bin .lss .other 2 (.t 25) (.t 26)) 4 24 true,o_ 28 (.pick (.t 24) (.t 27) (.c (.bool false)))] false [0,1,2,7,8,28]) (.cond (.t 28) (.skip) (.exit 0))) (zlJ)
def zlH:ACode:=.seq (.reg 0 [o_ 61 (.mov (.t 7)),o_ 6 (.asg (.t 61))] false [6]) (.ret)
def zlG:ACode:=.seq (.seq (.reg 0 [o_ 8 (.asg (.c (.int .i64 0)))] false [0,1,2,7,8]) (.block 0 (.loop (zlI)))) (zlH)
def zlF:ACode:=.seq (.reg 0 [o_ 18 (.mov (.t 0)),o_ 19 (.len 10 (.t 18)),o_ 7 (.asg (.t 19))] false [0,1,2,7]) (zlG)
def zlE:ACode:=.seq (.seq (.reg 0 [o_ 9 (.mov (.t 0)),o_ 10 (.len 10 (.t 9)),o_ 11 (.mov (.t 1)),o_ 12 (.bin .gtr .other 2 (.t 10) (.t 11)),o_ 13 (.mov (.t 12)),p_ 14 (.mov (.t 2)) 4 13 false,p_ 15 (.bin .gtr .other 2 (.t 14) (.c (.int .i64 80))) 4 13 false,o_ 16 (.pick (.t 13) (.c (.bool true)) (.t 15))] false [0,1,2,16]) (zlL)) (zlF)
def zlD:ACode:=.seq (.reg 0 [o_ 6 (.asg (.c (.int .i64 0)))] false [0,1,2]) (zlE)
def ziu:AFun:={ nt:=62,res:=[.t 6],code:=(zlD) }
def zqO:ACode:=.reg 0 [o_ 9 (.mov (.t 4)),o_ 10 (.bin .add .other 2 (.t 9) (.c (.int .i64 1))),o_ 4 (.asg (.t 10))] false [0,3,4]
def zqN:ACode:=.seq (.block 1 (.reg 2 [o_ 11 (.mov (.t 3)),o_ 12 (.mov (.t 0)),o_ 13 (.mov (.t 4)),o_ 14 (.iaddr 36 1 (.t 12) (.t 13)),o_ 15 (.load 7 false 1 (.t 14)),o_ 16 (.bslv 0 50 [.int .u8 0] 1 [(0,.t 15)]),o_ 17 (.app 1 50 1 1 (.t 11) (.t 16)),o_ 3 (.asg (.t 17))] false [0,3,4])) (zqO)
def zqM:ACode:=.seq (.seq (.reg 0 [o_ 5 (.mov (.t 4)),o_ 6 (.mov (.t 0)),o_ 7 (.len 36 (.t 6)),o_ 8 (.bin .lss .other 2 (.t 5) (.t 7))] false [0,3,4,8]) (.cond (.t 8) (.skip) (.exit 0))) (zqN)
def zqL:ACode:=.seq (.reg 0 [o_ 18 (.mov (.t 3)),o_ 2 (.asg (.t 18))] false [2]) (.ret)
def zqK:ACode:=.seq (.seq (.reg 0 [o_ 4 (.asg (.c (.int .i64 0)))] false [0,3,4]) (.block 0 (.loop (zqM)))) (zqL)
def zqJ:ACode:=.seq (.reg 0 [o_ 3 (.asg (.c .nils))] false [0,3]) (zqK)
def zmN:AFun:={ nt:=19,res:=[.t 2],code:=(.seq (.reg 0 [o_ 2 (.asg (.c .nils))] false [0]) (zqJ)) }
def zsu:ACode:=.reg 2 [o_ 16 (.mov (.t 3)),o_ 17 (.faddr 9 0 0 (.t 5)),o_ 18 (.load 7 false 1 (.t 17)),o_ 19 (.faddr 9 1 1 (.t 5)),o_ 20 (.load 27 false 1 (.t 19)),o_ 21 (.faddr 9 2 2 (.t 5)),o_ 22 (.load 13 false 1 (.t 21)),o_ 23 (.faddr 9 3 3 (.t 5)),o_ 24 (.load 13 false 1 (.t 23)),o_ 25 (.faddr 9 4 4 (.t 5)),o_ 26 (.load 7 false 1 (.t 25)),o_ 27 (.faddr 9 5 5 (.t 5)),o_ 28 (.load 10 false 1 (.t 27)),o_ 29 (.callp 18 [.t 28]),o_ 30 (.faddr 9 6 6 (.t 5)),o_ 31 (.load 10 false 1 (.t 30)),o_ 32 (.callp 18 [.t 31]),o_ 33 (.faddr 9 7 7 (.t 5)),o_ 34 (.load 23 false 1 (.t 33)),o_ 35 (.build 3 [.int .u8 0,.int .i64 0,.int .u32 0,.int .u32 0,.int .u8 0,.nils,.nils,.nils] [(0,0,1,.t 18),(1,1,1,.t 20),(2,2,1,.t 22),(3,3,1,.t 24),(4,4,1,.t 26),(5,5,1,.t 29),(6,6,1,.t 32),(7,7,1,.t 34)]),o_ 36 (.bslv 0 4 [.int .u8 0,.int .i64 0,.int .u32 0,.int .u32 0,.int .u8 0,.nils,.nils,.nils] 1 [(0,.t 35)]),o_ 37 (.app 1 4 8 104 (.t 16) (.t 36)),o_ 3 (.asg (.t 37))] true [0,3,4]
def zst:ACode:=.reg 0 [o_ 10 (.mov (.t 4)),o_ 11 (.bin .add .other 2 (.t 10) (.c (.int .i64 1))),o_ 4 (.asg (.t 11))] false [0,3,4]
def zss:ACode:=.seq (.block 1 (.seq (.reg 1 [o_ 12 (.mov (.t 0)),o_ 13 (.mov (.t 4)),o_ 14 (.iaddr 10 8 (.t 12) (.t 13)),o_ 15 (.load 9 true 8 (.t 14)),o_ 5 (.alloc 0 9 [.int .u8 0,.int .i64 0,.int .u32 0,.int .u32 0,.int .u8 0,.nils,.nils,.nils]),⟨none,.store 9 8 (.t 5) (.t 15),none⟩] false [0,3,4,5]) (zsu))) (zst)
def zsr:ACode:=.seq (.seq (.reg 0 [o_ 6 (.mov (.t 4)),o_ 7 (.mov (.t 0)),o_ 8 (.len 10 (.t 7)),o_ 9 (.bin .lss .other 2 (.t 6) (.t 8))] false [0,3,4,9]) (.cond (.t 9) (.skip) (.exit 0))) (zss)
def zsq:ACode:=.seq (.reg 0 [o_ 38 (.mov (.t 3)),o_ 2 (.asg (.t 38))] false [2]) (.ret)
def zsp:ACode:=.seq (.seq (.reg 0 [o_ 4 (.asg (.c (.int .i64 0)))] false [0,3,4]) (.block 0 (.loop (zsr)))) (zsq)
def zso:ACode:=.seq (.reg 0 [o_ 3 (.asg (.c .nils))] false [0,3]) (zsp)
def zos:AFun:={ nt:=39,res:=[.t 2],code:=(.seq (.reg 0 [o_ 2 (.asg (.c .nils))] false [0]) (zso)) }
def zsT:ACode:=.seq (.reg 1 [o_ 3 (.load 9 true 8 (.t 1)),o_ 4 (.bslv 0 10 [.int .u8 0,.int .i64 0,.int .u32 0,.int .u32 0,.int .u8 0,.nils,.nils,.nils] 1 [(0,.t 3)]),o_ 5 (.callp 18 [.t 4]),o_ 6 (.iaddr 4 8 (.t 5) (.c (.int .i64 0))),o_ 7 (.load 3 true 8 (.t 6)),⟨none,.store 3 8 (.t 2) (.t 7),none⟩] false [2]) (.ret)
def zsS:ACode:=.seq (.reg 2 [o_ 1 (.box 0 9 (.t 0)),o_ 2 (.alloc 1 3 [.int .u8 0,.int .i64 0,.int .u32 0,.int .u32 0,.int .u8 0,.nils,.nils,.nils])] false [1,2]) (zsT)
def zsm:AFun:={ nt:=8,res:=[.cell 2 3 true 8],code:=(zsS) }
def zmH:ACode:=.seq (.reg 0 [o_ 3 (.mkfn 29 [.t 1]),o_ 2 (.asg (.t 3))] false [2]) (.ret)
def zmG:ACode:=.seq (.reg 1 [o_ 1 (.box 0 13 (.t 0)),o_ 2 (.asg (.c .nilf))] false [1]) (zmH)
def zgc:AFun:={ nt:=4,res:=[.t 2],code:=(zmG) }
def zlx:ACode:=.seq (.reg 0 [o_ 4 (.faddr 19 0 0 (.t 2)),o_ 5 (.load 13 false 1 (.t 4)),o_ 6 (.load 13 false 1 (.t 1)),o_ 7 (.bin .gtr .other 13 (.t 5) (.t 6)),o_ 3 (.asg (.t 7))] false [3]) (.ret)
def zlw:ACode:=.seq (.reg 1 [o_ 2 (.box 0 19 (.t 0)),o_ 3 (.asg (.c (.bool false)))] false [1,2]) (zlx)
def zeX:AFun:={ nt:=8,res:=[.t 3],code:=(zlw) }
def zcq:ACode:=.seq (.reg 0 [o_ 5 (.mov (.t 0)),o_ 6 (.mov (.t 1)),o_ 7 (.callp 30 [.t 5,.t 6]),o_ 8 (.bin .geq .other 2 (.t 7) (.c (.int .i64 0))),o_ 4 (.asg (.t 8))] false [4]) (.ret)
def zcp:ACode:=.seq (.reg 0 [o_ 4 (.asg (.c (.bool false)))] false [0,1]) (zcq)
def zaF:AFun:={ nt:=9,res:=[.t 4],code:=(zcp) }
def zoG:ACode:=.cond (.t 35) (.seq (.reg 0 [o_ 2 (.asg (.c (.bool false)))] false [2]) (.ret)) (.skip)
def zoF:ACode:=.cond (.t 49) (.seq (.reg 0 [o_ 2 (.asg (.c (.bool false)))] false [2]) (.ret)) (.skip)
def zoE:ACode:=.seq (.reg 0 [o_ 43 (.faddr 6 0 0 (.t 4)),o_ 44 (.load 13 false 1 (.t 43)),o_ 45 (.faddr 1 0 0 (.t 1)),o_ 46 (.load 17 false 1 (.t 45)),o_ 47 (.len 17 (.t 46)),o_ 48 (.convi .u32 2 13 (.t 47)),o_ 49 (.bin .geq .other 13 (.t 44) (.t 48))] false [1,37,38,39,49]) (zoF)
def zoD:ACode:=.reg 0 [o_ 50 (.bin .add .other 2 (.t 39) (.c (.int .i64 1))),o_ 39 (.mov (.t 50))] false [1,37,38,39]
def zoC:ACode:=.seq (.block 1 (.seq (.reg 1 [o_ 41 (.iaddr 5 3 (.t 37) (.t 39)),o_ 42 (.load 6 true 3 (.t 41)),o_ 4 (.alloc 0 6 [.int .u32 0,.nils,.nils]),⟨none,.store 6 3 (.t 4) (.t 42),none⟩] false [1,4,37,38,39]) (zoE))) (zoD)
def zoB:ACode:=.seq (.reg 0 [o_ 40 (.bin .lss .other 2 (.t 39) (.t 38))] false [1,37,38,39,40]) (.seq (.cond (.t 40) (.skip) (.exit 0)) (zoC))
def zoA:ACode:=.cond (.t 63) (.seq (.reg 0 [o_ 2 (.asg (.c (.bool false)))] false [2]) (.ret)) (.skip)
def zoz:ACode:=.seq (.reg 0 [o_ 58 (.faddr 21 2 2 (.t 6)),o_ 59 (.load 3 true 8 (.t 58)),o_ 60 (.faddr 21 0 0 (.t 6)),o_ 61 (.load 51 false 1 (.t 60)),o_ 62 (.callp 33 [.t 59,.t 61]),o_ 63 (.un .not (.t 62))] false [1,52,53,54,63]) (zoA)
def zoy:ACode:=.reg 0 [o_ 64 (.bin .add .other 2 (.t 54) (.c (.int .i64 1))),o_ 54 (.mov (.t 64))] false [1,52,53,54]
def znu:ACode:=.seq (.block 3 (.seq (.reg 1 [o_ 56 (.iaddr 20 10 (.t 52) (.t 54)),o_ 57 (.load 21 true 10 (.t 56)),o_ 6 (.alloc 0 21 [.int .u8 0,.bool false,.int .u8 0,.int .i64 0,.int .u32 0,.int .u32 0,.int .u8 0,.nils,.nils,.nils]),⟨none,.store 21 10 (.t 6) (.t 57),none⟩] false [1,6,52,53,54]) (zoz))) (zoy)
def znt:ACode:=.seq (.reg 0 [o_ 55 (.bin .lss .other 2 (.t 54) (.t 53))] false [1,52,53,54,55]) (.seq (.cond (.t 55) (.skip) (.exit 2)) (znu))
def zns:ACode:=.cond (.t 92) (.seq (.reg 0 [o_ 2 (.asg (.c (.bool false)))] false [2]) (.ret)) (.skip)
def znr:ACode:=.seq (.reg 0 [o_ 72 (.faddr 24 0 0 (.t 8)),o_ 73 (.load 13 false 1 (.t 72)),o_ 74 (.bin .neq .other 13 (.t 73) (.c (.int .u32 0))),o_ 75 (.mov (.t 74)),p_ 76 (.faddr 1 2 2 (.t 1)) 3 75 false,p_ 77 (.load 18 false 1 (.t 76)) 3 75 false,p_ 78 (.len 18 (.t 77)) 3 75 false,p_ 79 (.bin .eql .other 2 (.t 78) (.c (.int .i64 0))) 3 75 false,o_ 80 (.pick (.t 75) (.c (.bool true)) (.t 79)),o_ 81 (.mov (.t 80)),p_ 82 (.faddr 24 1 1 (.t 8)) 9 81 false,p_ 83 (.load 3 true 8 (.t 82)) 9 81 false,p_ 84 (.callp 33 [.t 83,.c (.int .u8 127)]) 9 81 false,p_ 85 (.un .not (.t 84)) 9 81 false,o_ 86 (.pick (.t 81) (.c (.bool true)) (.t 85)),o_ 87 (.mov (.t 86)),p_ 88 (.faddr 24 2 9 (.t 8)) 15 87 false,p_ 89 (.load 23 false 1 (.t 88)) 15 87 false,p_ 90 (.mkfn 34 [.t 1]) 15 87 false,p_ 91 (.callp 35 [.t 89,.t 90]) 15 87 false,o_ 92 (.pick (.t 87) (.c (.bool true)) (.t 91))] false [1,66,67,68,92]) (zns)
def znq:ACode:=.reg 0 [o_ 93 (.bin .add .other 2 (.t 68) (.c (.int .i64 1))),o_ 68 (.mov (.t 93))] false [1,66,67,68]
def znp:ACode:=.seq (.block 5 (.seq (.reg 1 [o_ 70 (.iaddr 22 10 (.t 66) (.t 68)),o_ 71 (.load 24 true 10 (.t 70)),o_ 8 (.alloc 0 24 [.int .u32 0,.int .u8 0,.int .i64 0,.int .u32 0,.int .u32 0,.int .u8 0,.nils,.nils,.nils,.nils]),⟨none,.store 24 10 (.t 8) (.t 71),none⟩] false [1,8,66,67,68]) (znr))) (znq)
def zno:ACode:=.seq (.reg 0 [o_ 69 (.bin .lss .other 2 (.t 68) (.t 67))] false [1,66,67,68,69]) (.seq (.cond (.t 69) (.skip) (.exit 4)) (znp))
def znn:ACode:=.cond (.t 115) (.seq (.reg 0 [o_ 2 (.asg (.c (.bool false)))] false [2]) (.ret)) (.skip)
def znm:ACode:=.seq (.reg 0 [o_ 101 (.faddr 26 0 0 (.t 10)),o_ 102 (.load 13 false 1 (.t 101)),o_ 103 (.bin .neq .other 13 (.t 102) (.c (.int .u32 0))),o_ 104 (.mov (.t 103)),p_ 105 (.faddr 1 3 3 (.t 1)) 3 104 false,p_ 106 (.load 18 false 1 (.t 105)) 3 104 false,p_ 107 (.len 18 (.t 106)) 3 104 false,p_ 108 (.bin .eql .other 2 (.t 107) (.c (.int .i64 0))) 3 104 false,o_ 109 (.pick (.t 104) (.c (.bool true)) (.t 108)),o_ 110 (.mov (.t 109)),p_ 111 (.faddr 26 1 1 (.t 10)) 9 110 false,p_ 112 (.load 3 true 8 (.t 111)) 9 110 false,p_ 113 (.callp 33 [.t 112,.c (.int .u8 127)]) 9 110 false,p_ 114 (.un .not (.t 113)) 9 110 false,o_ 115 (.pick (.t 110) (.c (.bool true)) (.t 114))] false [1,95,96,97,115]) (znn)
def znl:ACode:=.reg 0 [o_ 116 (.bin .add .other 2 (.t 97) (.c (.int .i64 1))),o_ 97 (.mov (.t 116))] false [1,95,96,97]
def znk:ACode:=.seq (.block 7 (.seq (.reg 1 [o_ 99 (.iaddr 25 10 (.t 95) (.t 97)),o_ 100 (.load 26 true 10 (.t 99)),o_ 10 (.alloc 0 26 [.int .u32 0,.int .u8 0,.int .i64 0,.int .u32 0,.int .u32 0,.int .u8 0,.nils,.nils,.nils,.nils]),⟨none,.store 26 10 (.t 10) (.t 100),none⟩] false [1,10,95,96,97]) (znm))) (znl)
def znj:ACode:=.seq (.reg 0 [o_ 98 (.bin .lss .other 2 (.t 97) (.t 96))] false [1,95,96,97,98]) (.seq (.cond (.t 98) (.skip) (.exit 6)) (znk))
def zni:ACode:=.seq (.reg 0 [o_ 117 (.load 1 true 8 (.t 1)),o_ 118 (.callp 36 [.t 117]),o_ 2 (.asg (.t 118))] false [2]) (.ret)
def znh:ACode:=.seq (.seq (.reg 0 [o_ 94 (.faddr 1 7 7 (.t 1)),o_ 95 (.load 25 false 1 (.t 94)),o_ 96 (.len 25 (.t 95)),o_ 97 (.mov (.c (.int .i64 0)))] false [1,95,96,97]) (.block 6 (.loop (znj)))) (zni)
def zng:ACode:=.seq (.seq (.reg 0 [o_ 65 (.faddr 1 6 6 (.t 1)),o_ 66 (.load 22 false 1 (.t 65)),o_ 67 (.len 22 (.t 66)),o_ 68 (.mov (.c (.int .i64 0)))] false [1,66,67,68]) (.block 4 (.loop (zno)))) (znh)
def znf:ACode:=.seq (.seq (.reg 0 [o_ 51 (.faddr 1 4 4 (.t 1)),o_ 52 (.load 20 false 1 (.t 51)),o_ 53 (.len 20 (.t 52)),o_ 54 (.mov (.c (.int .i64 0)))] false [1,52,53,54]) (.block 2 (.loop (znt)))) (zng)
def zne:ACode:=.seq (.seq (.reg 0 [o_ 36 (.faddr 1 1 1 (.t 1)),o_ 37 (.load 5 false 1 (.t 36)),o_ 38 (.len 5 (.t 37)),o_ 39 (.mov (.c (.int .i64 0)))] false [1,37,38,39]) (.block 0 (.loop (zoB)))) (znf)
def znd:ACode:=.seq (.seq (.fz [1] (.reg 0 [o_ 11 (.load 1 true 8 (.t 1)),o_ 12 (.callp 31 [.t 11]),o_ 13 (.un .not (.t 12)),o_ 14 (.mov (.t 13)),p_ 15 (.faddr 1 2 2 (.t 1)) 3 14 false,p_ 16 (.load 18 false 1 (.t 15)) 3 14 false,p_ 17 (.len 18 (.t 16)) 3 14 false,p_ 18 (.bin .gtr .other 2 (.t 17) (.c (.int .i64 1))) 3 14 false,o_ 19 (.pick (.t 14) (.c (.bool true)) (.t 18)),o_ 20 (.mov (.t 19)),p_ 21 (.faddr 1 3 3 (.t 1)) 9 20 false,p_ 22 (.load 18 false 1 (.t 21)) 9 20 false,p_ 23 (.len 18 (.t 22)) 9 20 false,p_ 24 (.bin .gtr .other 2 (.t 23) (.c (.int .i64 1))) 9 20 false,o_ 25 (.pick (.t 20) (.c (.bool true)) (.t 24)),o_ 26 (.mov (.t 25)),p_ 27 (.faddr 1 2 2 (.t 1)) 15 26 false,p_ 28 (.load 18 false 1 (.t 27)) 15 26 false,p_ 29 (.callp 21 [.t 28,.f 32]) 15 26 false,o_ 30 (.pick (.t 26) (.c (.bool true)) (.t 29)),o_ 31 (.mov (.t 30)),p_ 32 (.faddr 1 3 3 (.t 1)) 20 31 false,p_ 33 (.load 18 false 1 (.t 32)) 20 31 false,p_ 34 (.callp 21 [.t 33,.f 32]) 20 31 false,o_ 35 (.pick (.t 31) (.c (.bool true)) (.t 34))] false [1,35])) (zoG)) (zne)
def znc:ACode:=.seq (.reg 1 [o_ 1 (.box 0 1 (.t 0)),o_ 2 (.asg (.c (.bool false)))] false [1]) (znd)
def ziC:AFun:={ nt:=119,res:=[.t 2],code:=(znc) }
def zoY:ACode:=.cond (.t 34) (.seq (.reg 0 [o_ 35 (.mkif 45 (.c (.int .i64 1))),o_ 4 (.asg (.c .nilp)),o_ 5 (.asg (.t 35))] false [4,5]) (.ret)) (.skip)
def zoX:ACode:=.cond (.t 94) (.seq (.reg 0 [o_ 95 (.mkif 45 (.c (.int .i64 7))),o_ 4 (.asg (.c .nilp)),o_ 5 (.asg (.t 95))] false [4,5]) (.ret)) (.skip)
def zoW:ACode:=.seq (.reg 0 [o_ 96 (.mov (.t 7)),o_ 4 (.asg (.t 96)),o_ 5 (.asg (.c .nili))] false [4,5]) (.ret)
def zoV:ACode:=.seq (.seq (.reg 0 [o_ 83 (.mov (.t 7)),o_ 84 (.nilchk (.t 83)),o_ 85 (.faddr 46 7 15 (.t 84)),o_ 86 (.load 12 false 1 (.t 85)),o_ 87 (.mov (.t 86)),p_ 88 (.mov (.t 7)) 4 87 false,p_ 89 (.nilchk (.t 88)) 4 87 false,p_ 90 (.faddr 46 3 11 (.t 89)) 4 87 false,p_ 91 (.load 50 false 1 (.t 90)) 4 87 false,p_ 92 (.len 50 (.t 91)) 4 87 false,p_ 93 (.bin .gtr .other 2 (.t 92) (.c (.int .i64 0))) 4 87 false,o_ 94 (.pick (.t 87) (.c (.bool true)) (.t 93))] false [7,94]) (zoX)) (zoW)
def zoU:ACode:=.seq (.reg 0 [o_ 79 (.mov (.t 7)),o_ 80 (.faddr 43 1 1 (.t 6)),o_ 81 (.load 51 false 1 (.t 80)),o_ 82 (.calls 40 [.t 79,.t 81])] false [7]) (zoV)
def zoT:ACode:=.seq (.reg 0 [o_ 71 (.mov (.t 7)),o_ 72 (.faddr 1 1 1 (.t 2)),o_ 73 (.load 5 false 1 (.t 72)),o_ 74 (.mov (.t 1)),o_ 75 (.iaddr 5 3 (.t 73) (.t 74)),o_ 76 (.faddr 6 2 2 (.t 75)),o_ 77 (.load 4 false 1 (.t 76)),o_ 78 (.calls 39 [.t 71,.t 77])] false [6,7]) (zoU)
def zoS:ACode:=.seq (.reg 2 [o_ 60 (.mov (.t 7)),o_ 61 (.mov (.t 7)),o_ 62 (.build 54 [.int .i64 0,.bool false,.bool false] []),o_ 63 (.bslice 0 55 [.int .i64 0,.bool false,.bool false] 1 [(0,.t 62)]),o_ 64 (.faddr 43 1 1 (.t 6)),o_ 65 (.load 100051 false 1 (.t 64)),o_ 66 (.bslice 1 50 [.int .u8 0] 1 [(0,.t 65)]),o_ 67 (.nilchk (.t 60)),o_ 68 (.faddr 46 4 12 (.t 67)),⟨none,.store 100055 1 (.t 68) (.t 63),none⟩,o_ 69 (.nilchk (.t 61)),o_ 70 (.faddr 46 5 13 (.t 69)),⟨none,.store 50 1 (.t 70) (.t 66),none⟩] true [1,2,6,7]) (zoT)
def zoR:ACode:=.seq (.reg 2 [o_ 46 (.load 1 true 8 (.t 2)),o_ 47 (.load 43 true 2 (.t 6)),o_ 48 (.faddr 43 0 0 (.t 6)),o_ 49 (.load 50 false 1 (.t 48)),o_ 50 (.faddr 1 1 1 (.t 2)),o_ 51 (.load 5 false 1 (.t 50)),o_ 52 (.mov (.t 1)),o_ 53 (.iaddr 5 3 (.t 51) (.t 52)),o_ 54 (.faddr 6 1 1 (.t 53)),o_ 55 (.load 50 false 1 (.t 54)),o_ 56 (.bslv 0 53 [.nils] 2 [(0,.t 49),(1,.t 55)]),o_ 57 (.callp 38 [.t 56]),o_ 58 (.build 46 [.nils,.nils,.nils,.nils,.nils,.nils,.nils,.nils,.nils,.int .u8 0,.nils,.nils,.nils,.nils,.int .i64 0,.bool false] [(0,0,8,.t 46),(1,8,2,.t 47),(2,10,1,.t 57)]),o_ 59 (.box 1 46 (.t 58)),o_ 7 (.asg (.t 59))] true [1,2,6,7]) (zoS)
def zoQ:ACode:=.seq (.reg 1 [o_ 36 (.faddr 1 0 0 (.t 2)),o_ 37 (.load 17 false 1 (.t 36)),o_ 38 (.faddr 1 1 1 (.t 2)),o_ 39 (.load 5 false 1 (.t 38)),o_ 40 (.mov (.t 1)),o_ 41 (.iaddr 5 3 (.t 39) (.t 40)),o_ 42 (.faddr 6 0 0 (.t 41)),o_ 43 (.load 13 false 1 (.t 42)),o_ 44 (.iaddr 17 2 (.t 37) (.t 43)),o_ 45 (.load 43 true 2 (.t 44)),o_ 6 (.alloc 0 43 [.nils,.int .u8 0]),⟨none,.store 43 2 (.t 6) (.t 45),none⟩] true [1,2,6]) (zoR)
def znC:ACode:=.seq (.seq (.reg 0 [o_ 8 (.mov (.t 1)),o_ 9 (.bin .lss .other 2 (.t 8) (.c (.int .i64 0))),o_ 10 (.mov (.t 9)),p_ 11 (.mov (.t 1)) 2 10 false,p_ 12 (.faddr 1 1 1 (.t 2)) 2 10 false,p_ 13 (.load 5 false 1 (.t 12)) 2 10 false,p_ 14 (.len 5 (.t 13)) 2 10 false,p_ 15 (.bin .geq .other 2 (.t 11) (.t 14)) 2 10 false,o_ 16 (.pick (.t 10) (.c (.bool true)) (.t 15)),o_ 17 (.mov (.t 16)),p_ 18 (.faddr 1 1 1 (.t 2)) 9 17 false,p_ 19 (.load 5 false 1 (.t 18)) 9 17 false,p_ 20 (.mov (.t 1)) 9 17 false,p_ 21 (.iaddr 5 3 (.t 19) (.t 20)) 9 17 false,p_ 22 (.faddr 6 0 0 (.t 21)) 9 17 false,p_ 23 (.load 13 false 1 (.t 22)) 9 17 false,p_ 24 (.faddr 1 0 0 (.t 2)) 9 17 false,p_ 25 (.load 17 false 1 (.t 24)) 9 17 false,p_ 26 (.len 17 (.t 25)) 9 17 false,p_ 27 (.convi .u32 2 13 (.t 26)) 9 17 false,p_ 28 (.bin .geq .other 13 (.t 23) (.t 27)) 9 17 false,o_ 29 (.pick (.t 17) (.c (.bool true)) (.t 28)),o_ 30 (.mov (.t 29)),p_ 31 (.load 1 true 8 (.t 2)) 22 30 false,p_ 32 (.callp 31 [.t 31]) 22 30 false,p_ 33 (.un .not (.t 32)) 22 30 false,o_ 34 (.pick (.t 30) (.c (.bool true)) (.t 33))] true [1,2,34]) (zoY)) (zoQ)
def znB:ACode:=.seq (.reg 1 [o_ 2 (.box 0 1 (.t 0)),o_ 4 (.asg (.c .nilp)),o_ 5 (.asg (.c .nili))] false [1,2]) (znC)
def ziX:AFun:={ nt:=97,res:=[.t 4,.t 5],code:=(znB) }
def zcN:ACode:=.cond (.t 16) (.seq (.reg 0 [o_ 17 (.mov (.t 5)),o_ 4 (.asg (.t 17))] false [4]) (.ret)) (.skip)
def zcM:ACode:=.seq (.reg 0 [o_ 11 (.mov (.t 1)),o_ 12 (.mov (.t 0)),o_ 13 (.mov (.t 5)),o_ 14 (.iaddr 18 3 (.t 12) (.t 13)),o_ 15 (.load 19 true 3 (.t 14)),o_ 16 (.callv (.t 11) [.t 15])] false [0,1,5,7,8,16]) (zcN)
def zcL:ACode:=.reg 0 [o_ 18 (.bin .add .other 2 (.t 8) (.c (.int .i64 1))),o_ 8 (.mov (.t 18))] false [0,1,7,8]
def zcK:ACode:=.seq (.block 1 (.seq (.reg 0 [o_ 10 (.mov (.t 8)),o_ 5 (.asg (.t 10))] false [0,1,5,7,8]) (zcM))) (zcL)
def zcJ:ACode:=.seq (.cond (.t 9) (.skip) (.exit 0)) (zcK)
def zcI:ACode:=.seq (.reg 0 [o_ 9 (.bin .lss .other 2 (.t 8) (.t 7))] false [0,1,7,8,9]) (zcJ)
def zcH:ACode:=.seq (.seq (.reg 0 [o_ 6 (.mov (.t 0)),o_ 7 (.len 18 (.t 6)),o_ 8 (.mov (.c (.int .i64 0)))] false [0,1,7,8]) (.block 0 (.loop (zcI)))) (.seq (.reg 0 [o_ 4 (.asg (.c (.int .i64 (-1))))] false [4]) (.ret))
def zcG:ACode:=.seq (.reg 0 [o_ 4 (.asg (.c (.int .i64 0)))] false [0,1]) (zcH)
def zaJ:AFun:={ nt:=19,res:=[.t 4],code:=(zcG) }
def zoP:ACode:=.cond (.t 24) (.seq (.reg 0 [o_ 2 (.asg (.c (.bool false)))] false [2]) (.ret)) (.skip)
def zoO:ACode:=.seq (.reg 0 [o_ 15 (.faddr 43 1 1 (.t 5)),o_ 16 (.load 51 false 1 (.t 15)),o_ 17 (.callp 50 [.t 16]),o_ 18 (.un .not (.t 17)),o_ 19 (.mov (.t 18)),p_ 20 (.faddr 43 0 0 (.t 5)) 4 19 false,p_ 21 (.load 50 false 1 (.t 20)) 4 19 false,p_ 22 (.load 57 false 1 (.t 3)) 4 19 false,p_ 23 (.callp 51 [.t 21,.t 22]) 4 19 false,o_ 24 (.pick (.t 19) (.c (.bool true)) (.t 23))] false [1,3,9,10,11,24]) (zoP)
def zoN:ACode:=.reg 0 [o_ 25 (.bin .add .other 2 (.t 11) (.c (.int .i64 1))),o_ 11 (.mov (.t 25))] false [1,3,9,10,11]
def zoM:ACode:=.seq (.block 1 (.seq (.reg 1 [o_ 13 (.iaddr 17 2 (.t 9) (.t 11)),o_ 14 (.load 43 true 2 (.t 13)),o_ 5 (.alloc 0 43 [.nils,.int .u8 0]),⟨none,.store 43 2 (.t 5) (.t 14),none⟩] false [1,3,5,9,10,11]) (zoO))) (zoN)
def zoL:ACode:=.seq (.reg 0 [o_ 12 (.bin .lss .other 2 (.t 11) (.t 10))] false [1,3,9,10,11,12]) (.seq (.cond (.t 12) (.skip) (.exit 0)) (zoM))
def zoK:ACode:=.cond (.t 36) (.seq (.reg 0 [o_ 2 (.asg (.c (.bool false)))] false [2]) (.ret)) (.skip)
def zoJ:ACode:=.seq (.reg 0 [o_ 33 (.faddr 6 1 1 (.t 7)),o_ 34 (.load 50 false 1 (.t 33)),o_ 35 (.load 57 false 1 (.t 3)),o_ 36 (.callp 51 [.t 34,.t 35])] false [1,3,27,28,29,36]) (zoK)
def zoI:ACode:=.reg 0 [o_ 37 (.bin .add .other 2 (.t 29) (.c (.int .i64 1))),o_ 29 (.mov (.t 37))] false [1,3,27,28,29]
def zoH:ACode:=.seq (.block 3 (.seq (.reg 1 [o_ 31 (.iaddr 5 3 (.t 27) (.t 29)),o_ 32 (.load 6 true 3 (.t 31)),o_ 7 (.alloc 0 6 [.int .u32 0,.nils,.nils]),⟨none,.store 6 3 (.t 7) (.t 32),none⟩] false [1,3,7,27,28,29]) (zoJ))) (zoI)
def znA:ACode:=.seq (.reg 0 [o_ 30 (.bin .lss .other 2 (.t 29) (.t 28))] false [1,3,27,28,29,30]) (.seq (.cond (.t 30) (.skip) (.exit 2)) (zoH))
def znz:ACode:=.seq (.reg 0 [o_ 38 (.faddr 1 4 4 (.t 1)),o_ 39 (.load 20 false 1 (.t 38)),o_ 40 (.mkfn 52 [.t 3]),o_ 41 (.callp 53 [.t 39,.t 40]),o_ 42 (.un .not (.t 41)),o_ 2 (.asg (.t 42))] false [2]) (.ret)
def zny:ACode:=.seq (.seq (.reg 0 [o_ 26 (.faddr 1 1 1 (.t 1)),o_ 27 (.load 5 false 1 (.t 26)),o_ 28 (.len 5 (.t 27)),o_ 29 (.mov (.c (.int .i64 0)))] false [1,3,27,28,29]) (.block 2 (.loop (znA)))) (znz)
def znx:ACode:=.seq (.seq (.reg 0 [o_ 8 (.faddr 1 0 0 (.t 1)),o_ 9 (.load 17 false 1 (.t 8)),o_ 10 (.len 17 (.t 9)),o_ 11 (.mov (.c (.int .i64 0)))] false [1,3,9,10,11]) (.block 0 (.loop (zoL)))) (zny)
def znw:ACode:=.seq (.reg 1 [o_ 3 (.alloc 0 57 [.nilf]),⟨none,.store 57 1 (.t 3) (.f 49),none⟩] false [1,3]) (znx)
def znv:ACode:=.seq (.reg 1 [o_ 1 (.box 0 1 (.t 0)),o_ 2 (.asg (.c (.bool false)))] false [1]) (znw)
def ziD:AFun:={ nt:=43,res:=[.t 2],code:=(znv) }
def znE:ACode:=.seq (.reg 0 [o_ 3 (.faddr 19 1 1 (.t 1)),o_ 4 (.load 12 false 1 (.t 3)),o_ 5 (.mov (.t 4)),p_ 6 (.faddr 19 0 0 (.t 1)) 2 5 true,p_ 7 (.load 13 false 1 (.t 6)) 2 5 true,p_ 8 (.faddr 19 2 2 (.t 1)) 2 5 true,p_ 9 (.load 13 false 1 (.t 8)) 2 5 true,p_ 10 (.bin .gtr .other 13 (.t 7) (.t 9)) 2 5 true,o_ 11 (.pick (.t 5) (.t 10) (.c (.bool false))),o_ 2 (.asg (.t 11))] false [2]) (.ret)
def znD:ACode:=.seq (.reg 1 [o_ 1 (.box 0 19 (.t 0)),o_ 2 (.asg (.c (.bool false)))] false [1]) (znE)
def zhu:AFun:={ nt:=12,res:=[.t 2],code:=(znD) }
def zox:ACode:=.seq (.reg 0 [o_ 5 (.mov (.t 1)),o_ 6 (.bin .eql .other 51 (.t 5) (.c (.int .u8 127))),o_ 7 (.mov (.t 6)),p_ 8 (.faddr 3 0 0 (.t 2)) 2 7 true,p_ 9 (.load 7 false 1 (.t 8)) 2 7 true,p_ 10 (.bin .eql .other 7 (.t 9) (.c (.int .u8 65))) 2 7 true,o_ 11 (.pick (.t 7) (.t 10) (.c (.bool false))),o_ 12 (.mov (.t 11)),p_ 13 (.faddr 3 1 1 (.t 2)) 7 12 true,p_ 14 (.load 27 false 1 (.t 13)) 7 12 true,p_ 15 (.faddr 3 1 1 (.t 2)) 7 12 true,p_ 16 (.load 27 false 1 (.t 15)) 7 12 true,p_ 17 (.convi .i32 27 58 (.t 16)) 7 12 true,p_ 18 (.convi .i64 58 27 (.t 17)) 7 12 true,p_ 19 (.bin .eql .other 27 (.t 14) (.t 18)) 7 12 true,o_ 20 (.pick (.t 12) (.t 19) (.c (.bool false))),o_ 21 (.mov (.t 20)),p_ 22 (.mov (.t 1)) 16 21 false,p_ 23 (.bin .eql .other 51 (.t 22) (.c (.int .u8 126))) 16 21 false,p_ 24 (.mov (.t 23)) 16 21 false,p_ 25 (.faddr 3 0 0 (.t 2)) 19 24 true,p_ 26 (.load 7 false 1 (.t 25)) 19 24 true,p_ 27 (.bin .eql .other 7 (.t 26) (.c (.int .u8 66))) 19 24 true,p_ 28 (.pick (.t 24) (.t 27) (.c (.bool false))) 16 21 false,o_ 29 (.pick (.t 21) (.c (.bool true)) (.t 28)),o_ 4 (.asg (.t 29))] false [4]) (.ret)
def zow:ACode:=.seq (.reg 1 [o_ 2 (.box 0 3 (.t 0)),o_ 4 (.asg (.c (.bool false)))] false [1,2]) (zox)
def ziB:AFun:={ nt:=30,res:=[.t 4],code:=(zow) }
def zdz:ACode:=.seq (.reg 0 [o_ 5 (.mov (.t 0)),o_ 6 (.mov (.t 1)),o_ 7 (.callp 54 [.t 5,.t 6]),o_ 8 (.bin .geq .other 2 (.t 7) (.c (.int .i64 0))),o_ 4 (.asg (.t 8))] false [4]) (.ret)
def zdy:ACode:=.seq (.reg 0 [o_ 4 (.asg (.c (.bool false)))] false [0,1]) (zdz)
def zbh:AFun:={ nt:=9,res:=[.t 4],code:=(zdy) }
def zmB:ACode:=.seq (.reg 0 [o_ 4 (.mov (.t 0)),o_ 5 (.faddr 1 1 1 (.t 1)),o_ 6 (.load 5 false 1 (.t 5)),o_ 7 (.len 5 (.t 6)),o_ 8 (.convi .u32 2 13 (.t 7)),o_ 9 (.bin .geq .other 13 (.t 4) (.t 8)),o_ 3 (.asg (.t 9))] false [3]) (.ret)
def zmA:ACode:=.seq (.reg 0 [o_ 3 (.asg (.c (.bool false)))] false [0,1]) (zmB)
def zfs:AFun:={ nt:=10,res:=[.t 3],code:=(zmA) }
def zfB:ACode:=.cond (.t 52) (.seq (.reg 0 [o_ 2 (.asg (.c (.bool false)))] false [2]) (.ret)) (.skip)
def zfA:ACode:=.seq (.reg 0 [o_ 33 (.faddr 16 1 1 (.t 6)),o_ 34 (.load 7 false 1 (.t 33)),o_ 35 (.bin .gtr .other 7 (.t 34) (.c (.int .u8 3))),o_ 36 (.mov (.t 35)),p_ 37 (.faddr 16 2 2 (.t 6)) 3 36 false,p_ 38 (.load 13 false 1 (.t 37)) 3 36 false,p_ 39 (.convi .i64 13 2 (.t 38)) 3 36 false,p_ 40 (.faddr 16 1 1 (.t 6)) 3 36 false,p_ 41 (.load 7 false 1 (.t 40)) 3 36 false,p_ 42 (.iaddrA 59 4 1 (.t 3) (.t 41)) 3 36 false,p_ 43 (.load 2 false 1 (.t 42)) 3 36 false,p_ 44 (.bin .geq .other 2 (.t 39) (.t 43)) 3 36 false,o_ 45 (.pick (.t 36) (.c (.bool true)) (.t 44)),o_ 46 (.mov (.t 45)),p_ 47 (.mov (.t 4)) 13 46 false,p_ 48 (.faddr 16 0 0 (.t 6)) 13 46 false,p_ 49 (.load 39 false 1 (.t 48)) 13 46 false,p_ 50 (.x (.mlook 63 (.int .i64 0) (.t 47) (.t 49))) 13 46 false,p_ 51 (.bin .gtr .other 2 (.t 50) (.c (.int .i64 1))) 13 46 false,o_ 52 (.pick (.t 46) (.c (.bool true)) (.t 51))] true [3,4,22,23,24,52]) (zfB)
def zfz:ACode:=.seq (.reg 0 [o_ 28 (.mov (.t 4)),o_ 29 (.faddr 16 0 0 (.t 6)),o_ 30 (.load 39 false 1 (.t 29)),o_ 31 (.x (.mlook 63 (.int .i64 0) (.t 28) (.t 30))),o_ 32 (.bin .add .other 2 (.t 31) (.c (.int .i64 1))),⟨none,.x (.mset 63 (.t 28) (.t 30) (.t 32)),none⟩] false [3,4,6,22,23,24]) (zfA)
def zej:ACode:=.reg 0 [o_ 53 (.bin .add .other 2 (.t 24) (.c (.int .i64 1))),o_ 24 (.mov (.t 53))] false [3,4,22,23,24]
def zei:ACode:=.seq (.block 1 (.seq (.reg 1 [o_ 26 (.iaddr 15 3 (.t 22) (.t 24)),o_ 27 (.load 16 true 3 (.t 26)),o_ 6 (.alloc 0 16 [.str b156_,.int .u8 0,.int .u32 0]),⟨none,.store 16 3 (.t 6) (.t 27),none⟩] false [3,4,6,22,23,24]) (zfz))) (zej)
def zfy:ACode:=.seq (.reg 0 [o_ 25 (.bin .lss .other 2 (.t 24) (.t 23))] false [3,4,22,23,24,25]) (.seq (.cond (.t 25) (.skip) (.exit 0)) (zei))
def zfx:ACode:=.seq (.seq (.reg 0 [o_ 21 (.faddr 1 5 5 (.t 1)),o_ 22 (.load 15 false 1 (.t 21)),o_ 23 (.len 15 (.t 22)),o_ 24 (.mov (.c (.int .i64 0)))] false [3,4,22,23,24]) (.block 0 (.loop (zfy)))) (.seq (.reg 0 [o_ 2 (.asg (.c (.bool true)))] false [2]) (.ret))
def zfw:ACode:=.seq (.reg 1 [o_ 20 (.x (.mkmap 0 63)),o_ 4 (.asg (.t 20))] false [1,3,4]) (zfx)
def zfv:ACode:=.seq (.reg 1 [o_ 7 (.faddr 1 1 1 (.t 1)),o_ 8 (.load 5 false 1 (.t 7)),o_ 9 (.len 5 (.t 8)),o_ 10 (.faddr 1 2 2 (.t 1)),o_ 11 (.load 18 false 1 (.t 10)),o_ 12 (.len 18 (.t 11)),o_ 13 (.faddr 1 3 3 (.t 1)),o_ 14 (.load 18 false 1 (.t 13)),o_ 15 (.len 18 (.t 14)),o_ 16 (.faddr 1 4 4 (.t 1)),o_ 17 (.load 20 false 1 (.t 16)),o_ 18 (.len 20 (.t 17)),o_ 19 (.build 59 [.int .i64 0,.int .i64 0,.int .i64 0,.int .i64 0] [(0,0,1,.t 9),(1,1,1,.t 12),(2,2,1,.t 15),(3,3,1,.t 18)]),o_ 3 (.alloc 0 59 [.int .i64 0,.int .i64 0,.int .i64 0,.int .i64 0]),⟨none,.store 59 4 (.t 3) (.t 19),none⟩] false [1,3]) (zfw)
def zfg:ACode:=.seq (.reg 1 [o_ 1 (.box 0 1 (.t 0)),o_ 2 (.asg (.c (.bool false)))] false [1]) (zfv)
def zee:AFun:={ nt:=54,res:=[.t 2],code:=(zfg) }
def zdZ:ACode:=.cond (.t 20) (.reg 0 [o_ 21 (.mkif 39 (.c (.str ⟨#[108,101,110,32,111,117,116,32,111,102,32,114,97,110,103,101]⟩))),⟨none,.x (.pan (.t 21)),none⟩] false [0,3,9,10,11]) (.skip)
def zdY:ACode:=.seq (.reg 0 [o_ 19 (.mov (.t 3)),o_ 20 (.bin .lss .other 2 (.t 19) (.c (.int .i64 0)))] false [0,3,9,10,11,20]) (zdZ)
def zdX:ACode:=.seq (.reg 0 [o_ 15 (.mov (.t 3)),o_ 16 (.mov (.t 5)),o_ 17 (.len 50 (.t 16)),o_ 18 (.bin .add .other 2 (.t 15) (.t 17)),o_ 3 (.asg (.t 18))] false [0,3,9,10,11]) (zdY)
def zdW:ACode:=.reg 0 [o_ 22 (.bin .add .other 2 (.t 11) (.c (.int .i64 1))),o_ 11 (.mov (.t 22))] false [0,3,9,10,11]
def zdV:ACode:=.seq (.block 1 (.seq (.reg 0 [o_ 13 (.iaddr 53 1 (.t 9) (.t 11)),o_ 14 (.load 50 false 1 (.t 13)),o_ 5 (.asg (.t 14))] false [0,3,5,9,10,11]) (zdX))) (zdW)
def zdU:ACode:=.seq (.cond (.t 12) (.skip) (.exit 0)) (zdV)
def zdT:ACode:=.seq (.reg 0 [o_ 12 (.bin .lss .other 2 (.t 11) (.t 10))] false [0,3,9,10,11,12]) (zdU)
def zdS:ACode:=.reg 1 [o_ 31 (.mov (.t 6)),o_ 32 (.mov (.t 8)),o_ 33 (.app 0 50 1 1 (.t 31) (.t 32)),o_ 6 (.asg (.t 33))] false [6,25,26,27]
def zdR:ACode:=.reg 0 [o_ 34 (.bin .add .other 2 (.t 27) (.c (.int .i64 1))),o_ 27 (.mov (.t 34))] false [6,25,26,27]
def zdO:ACode:=.seq (.block 3 (.seq (.reg 0 [o_ 29 (.iaddr 53 1 (.t 25) (.t 27)),o_ 30 (.load 50 false 1 (.t 29)),o_ 8 (.asg (.t 30))] false [6,8,25,26,27]) (zdS))) (zdR)
def zdN:ACode:=.seq (.cond (.t 28) (.skip) (.exit 2)) (zdO)
def zdM:ACode:=.seq (.reg 0 [o_ 28 (.bin .lss .other 2 (.t 27) (.t 26))] false [6,25,26,27,28]) (zdN)
def zdL:ACode:=.seq (.reg 0 [o_ 35 (.mov (.t 6)),o_ 2 (.asg (.t 35))] false [2]) (.ret)
def zdK:ACode:=.seq (.seq (.reg 0 [o_ 25 (.mov (.t 0)),o_ 26 (.len 53 (.t 25)),o_ 27 (.mov (.c (.int .i64 0)))] false [6,25,26,27]) (.block 2 (.loop (zdM)))) (zdL)
def zdJ:ACode:=.seq (.reg 0 [o_ 23 (.mov (.t 3)),o_ 24 (.calls 68 [.c .nils,.t 23]),o_ 6 (.asg (.t 24))] false [0,6]) (zdK)
def zdI:ACode:=.seq (.seq (.reg 0 [o_ 9 (.mov (.t 0)),o_ 10 (.len 53 (.t 9)),o_ 11 (.mov (.c (.int .i64 0)))] false [0,3,9,10,11]) (.block 0 (.loop (zdT)))) (zdJ)
def zdH:ACode:=.seq (.reg 0 [o_ 3 (.asg (.c (.int .i64 0)))] false [0,3]) (zdI)
def zdG:ACode:=.seq (.reg 0 [o_ 2 (.asg (.c .nils))] false [0]) (zdH)
def zby:AFun:={ nt:=36,res:=[.t 2],code:=(zdG) }
def ziT:ACode:=.cond (.t 18) (.reg 0 [o_ 19 (.mov (.t 0)),o_ 20 (.load 3 true 8 (.t 5)),o_ 21 (.calls 55 [.t 19,.t 20])] false [0,6,7,8]) (.reg 0 [o_ 22 (.mov (.t 0)),o_ 23 (.load 3 true 8 (.t 5)),o_ 24 (.calls 56 [.t 22,.t 23])] false [0,6,7,8])
def ziS:ACode:=.seq (.reg 0 [o_ 16 (.faddr 3 0 0 (.t 5)),o_ 17 (.load 7 false 1 (.t 16)),o_ 18 (.bin .lss .other 7 (.t 17) (.c (.int .u8 26)))] false [0,5,6,7,8,18]) (ziT)
def ziR:ACode:=.seq (.seq (.reg 0 [o_ 12 (.mov (.t 0)),o_ 13 (.nilchk (.t 12)),o_ 14 (.faddr 46 7 15 (.t 13)),o_ 15 (.load 12 false 1 (.t 14))] false [0,5,6,7,8,15]) (.cond (.t 15) (.ret) (.skip))) (ziS)
def ziQ:ACode:=.reg 0 [o_ 25 (.bin .add .other 2 (.t 8) (.c (.int .i64 1))),o_ 8 (.mov (.t 25))] false [0,6,7,8]
def ziP:ACode:=.seq (.block 1 (.seq (.reg 1 [o_ 10 (.iaddr 4 8 (.t 6) (.t 8)),o_ 11 (.load 3 true 8 (.t 10)),o_ 5 (.alloc 0 3 [.int .u8 0,.int .i64 0,.int .u32 0,.int .u32 0,.int .u8 0,.nils,.nils,.nils]),⟨none,.store 3 8 (.t 5) (.t 11),none⟩] false [0,5,6,7,8]) (ziR))) (ziQ)
def ziO:ACode:=.seq (.reg 0 [o_ 9 (.bin .lss .other 2 (.t 8) (.t 7))] false [0,6,7,8,9]) (.seq (.cond (.t 9) (.skip) (.exit 0)) (ziP))
def ziN:ACode:=.seq (.reg 0 [o_ 6 (.mov (.t 1)),o_ 7 (.len 4 (.t 6)),o_ 8 (.mov (.c (.int .i64 0)))] false [0,6,7,8]) (.block 0 (.loop (ziO)))
def zdE:AFun:={ nt:=26,res:=[],code:=(ziN) }
def ziM:ACode:=.cond (.t 21) (.seq (.reg 0 [o_ 22 (.mov (.t 1)),o_ 4 (.asg (.t 22))] false [4]) (.ret)) (.skip)
def ziL:ACode:=.seq (.reg 0 [o_ 44 (.mov (.t 1)),o_ 4 (.asg (.t 44))] false [4]) (.ret)
def ziK:ACode:=.cond (.t 31) (.seq (.reg 0 [o_ 32 (.mov (.t 0)),o_ 33 (.mov (.t 0)),o_ 34 (.nilchk (.t 33)),o_ 35 (.faddr 46 7 15 (.t 34)),o_ 36 (.load 12 false 1 (.t 35)),o_ 37 (.mov (.t 36)),p_ 38 (.faddr 54 1 1 (.t 5)) 5 37 false,p_ 39 (.load 12 false 1 (.t 38)) 5 37 false,p_ 40 (.un .not (.t 39)) 5 37 false,o_ 41 (.pick (.t 37) (.c (.bool true)) (.t 40)),o_ 42 (.nilchk (.t 32)),o_ 43 (.faddr 46 7 15 (.t 42)),⟨none,.store 12 1 (.t 43) (.t 41),none⟩] false [1]) (ziL)) (.skip)
def ziJ:ACode:=.cond (.t 73) (.reg 0 [o_ 74 (.mov (.t 0)),o_ 75 (.nilchk (.t 74)),o_ 76 (.faddr 46 7 15 (.t 75)),⟨none,.store 12 1 (.t 76) (.c (.bool true)),none⟩] false [1,7]) (.skip)
def ziI:ACode:=.cond (.t 78) (.seq (.reg 0 [o_ 79 (.mov (.t 1)),o_ 4 (.asg (.t 79))] false [4]) (.ret)) (.skip)
def ziH:ACode:=.seq (.reg 0 [o_ 80 (.mov (.t 7)),o_ 4 (.asg (.t 80))] false [4]) (.ret)
def ziG:ACode:=.seq (.seq (.reg 0 [o_ 77 (.mov (.t 7)),o_ 78 (.bin .eql .other 51 (.t 77) (.c (.int .u8 1)))] false [1,7,78]) (ziI)) (ziH)
def ziF:ACode:=.seq (.seq (.reg 0 [o_ 63 (.mov (.t 7)),o_ 64 (.mov (.t 1)),o_ 65 (.bin .neq .other 51 (.t 63) (.t 64)),o_ 66 (.mov (.t 65)),p_ 67 (.mov (.t 7)) 3 66 true,p_ 68 (.bin .neq .other 51 (.t 67) (.c (.int .u8 1))) 3 66 true,o_ 69 (.pick (.t 66) (.t 68) (.c (.bool false))),o_ 70 (.mov (.t 69)),p_ 71 (.mov (.t 1)) 7 70 true,p_ 72 (.bin .neq .other 51 (.t 71) (.c (.int .u8 1))) 7 70 true,o_ 73 (.pick (.t 70) (.t 72) (.c (.bool false)))] false [0,1,7,73]) (ziJ)) (ziG)
def ziE:ACode:=.seq (.reg 0 [o_ 53 (.mov (.t 0)),o_ 54 (.mov (.t 0)),o_ 55 (.nilchk (.t 54)),o_ 56 (.faddr 46 3 11 (.t 55)),o_ 57 (.load 50 false 1 (.t 56)),o_ 58 (.mov (.t 6)),o_ 59 (.bin .sub .other 2 (.t 58) (.c (.int .i64 1))),o_ 60 (.slc 50 1 (.t 57) none (some (.t 59))),o_ 61 (.nilchk (.t 53)),o_ 62 (.faddr 46 3 11 (.t 61)),⟨none,.store 50 1 (.t 62) (.t 60),none⟩] false [0,1,7]) (ziF)
def zhF:ACode:=.seq (.reg 0 [o_ 45 (.mov (.t 0)),o_ 46 (.nilchk (.t 45)),o_ 47 (.faddr 46 3 11 (.t 46)),o_ 48 (.load 50 false 1 (.t 47)),o_ 49 (.mov (.t 6)),o_ 50 (.bin .sub .other 2 (.t 49) (.c (.int .i64 1))),o_ 51 (.iaddr 50 1 (.t 48) (.t 50)),o_ 52 (.load 51 false 1 (.t 51)),o_ 7 (.asg (.t 52))] false [0,1,6,7]) (ziE)
def zhE:ACode:=.seq (.seq (.reg 0 [o_ 28 (.mov (.t 6)),o_ 29 (.faddr 54 0 0 (.t 5)),o_ 30 (.load 2 false 1 (.t 29)),o_ 31 (.bin .eql .other 2 (.t 28) (.t 30))] false [0,1,5,6,31]) (ziK)) (zhF)
def zhD:ACode:=.seq (.reg 0 [o_ 23 (.mov (.t 0)),o_ 24 (.nilchk (.t 23)),o_ 25 (.faddr 46 3 11 (.t 24)),o_ 26 (.load 50 false 1 (.t 25)),o_ 27 (.len 50 (.t 26)),o_ 6 (.asg (.t 27))] false [0,1,5,6]) (zhE)
def zhC:ACode:=.seq (.seq (.reg 0 [o_ 20 (.mov (.t 1)),o_ 21 (.bin .eql .other 51 (.t 20) (.c (.int .u8 0)))] false [0,1,5,21]) (ziM)) (zhD)
def zhB:ACode:=.seq (.reg 1 [o_ 8 (.mov (.t 0)),o_ 9 (.nilchk (.t 8)),o_ 10 (.faddr 46 4 12 (.t 9)),o_ 11 (.load 55 false 1 (.t 10)),o_ 12 (.mov (.t 0)),o_ 13 (.nilchk (.t 12)),o_ 14 (.faddr 46 4 12 (.t 13)),o_ 15 (.load 55 false 1 (.t 14)),o_ 16 (.len 55 (.t 15)),o_ 17 (.bin .sub .other 2 (.t 16) (.c (.int .i64 1))),o_ 18 (.iaddr 55 3 (.t 11) (.t 17)),o_ 19 (.load 54 true 3 (.t 18)),o_ 5 (.alloc 0 54 [.int .i64 0,.bool false,.bool false]),⟨none,.store 54 3 (.t 5) (.t 19),none⟩] true [0,1,5]) (zhC)
def zhA:ACode:=.seq (.reg 0 [o_ 4 (.asg (.c (.int .u8 0)))] false [0,1]) (zhB)
def zdD:AFun:={ nt:=81,res:=[.t 4],code:=(zhA) }
def zmF:ACode:=.seq (.reg 0 [o_ 3 (.mov (.t 0)),o_ 4 (.bin .eql .other 51 (.t 3) (.c (.int .u8 0))),o_ 5 (.mov (.t 4)),p_ 6 (.mov (.t 0)) 2 5 false,p_ 7 (.callp 50 [.t 6]) 2 5 false,p_ 8 (.un .not (.t 7)) 2 5 false,o_ 9 (.pick (.t 5) (.c (.bool true)) (.t 8)),o_ 2 (.asg (.t 9))] false [2]) (.ret)
def zmE:ACode:=.seq (.reg 0 [o_ 2 (.asg (.c (.bool false)))] false [0]) (zmF)
def zfu:AFun:={ nt:=10,res:=[.t 2],code:=(zmE) }
def znb:ACode:=.seq (.reg 0 [o_ 3 (.mov (.t 0)),o_ 4 (.bin .eql .other 51 (.t 3) (.c (.int .u8 0))),o_ 5 (.mov (.t 4)),p_ 6 (.mov (.t 0)) 2 5 false,p_ 7 (.bin .eql .other 51 (.t 6) (.c (.int .u8 127))) 2 5 false,o_ 8 (.pick (.t 5) (.c (.bool true)) (.t 7)),o_ 9 (.mov (.t 8)),p_ 10 (.mov (.t 0)) 6 9 false,p_ 11 (.bin .eql .other 51 (.t 10) (.c (.int .u8 126))) 6 9 false,o_ 12 (.pick (.t 9) (.c (.bool true)) (.t 11)),o_ 2 (.asg (.t 12))] false [2]) (.ret)
def zna:ACode:=.seq (.reg 0 [o_ 2 (.asg (.c (.bool false)))] false [0]) (znb)
def zgY:AFun:={ nt:=13,res:=[.t 2],code:=(zna) }
def zcY:ACode:=.seq (.reg 0 [o_ 5 (.mov (.t 0)),o_ 6 (.mov (.t 1)),o_ 7 (.callp 66 [.t 5,.t 6]),o_ 8 (.bin .geq .other 2 (.t 7) (.c (.int .i64 0))),o_ 4 (.asg (.t 8))] false [4]) (.ret)
def zcX:ACode:=.seq (.reg 0 [o_ 4 (.asg (.c (.bool false)))] false [0,1]) (zcY)
def zaZ:AFun:={ nt:=9,res:=[.t 4],code:=(zcX) }
def zcs:ACode:=.seq (.reg 0 [o_ 5 (.mov (.t 0)),o_ 6 (.mov (.t 1)),o_ 7 (.callp 67 [.t 5,.t 6]),o_ 8 (.bin .geq .other 2 (.t 7) (.c (.int .i64 0))),o_ 4 (.asg (.t 8))] false [4]) (.ret)
def zcr:ACode:=.seq (.reg 0 [o_ 4 (.asg (.c (.bool false)))] false [0,1]) (zcs)
def zaS:AFun:={ nt:=9,res:=[.t 4],code:=(zcr) }
def zmD:ACode:=.seq (.reg 0 [o_ 4 (.load 57 false 1 (.t 1)),o_ 5 (.faddr 21 0 0 (.t 2)),o_ 6 (.load 51 false 1 (.t 5)),o_ 7 (.callv (.t 4) [.t 6]),o_ 3 (.asg (.t 7))] false [3]) (.ret)
def zmC:ACode:=.seq (.reg 1 [o_ 2 (.box 0 21 (.t 0)),o_ 3 (.asg (.c (.bool false)))] false [1,2]) (zmD)
def zft:AFun:={ nt:=8,res:=[.t 3],code:=(zmC) }
def zet:ACode:=.cond (.t 16) (.seq (.reg 0 [o_ 17 (.mov (.t 5)),o_ 4 (.asg (.t 17))] false [4]) (.ret)) (.skip)
def zes:ACode:=.seq (.reg 0 [o_ 11 (.mov (.t 1)),o_ 12 (.mov (.t 0)),o_ 13 (.mov (.t 5)),o_ 14 (.iaddr 23 1 (.t 12) (.t 13)),o_ 15 (.load 13 false 1 (.t 14)),o_ 16 (.callv (.t 11) [.t 15])] false [0,1,5,7,8,16]) (zet)
def zer:ACode:=.reg 0 [o_ 18 (.bin .add .other 2 (.t 8) (.c (.int .i64 1))),o_ 8 (.mov (.t 18))] false [0,1,7,8]
def zeq:ACode:=.seq (.block 1 (.seq (.reg 0 [o_ 10 (.mov (.t 8)),o_ 5 (.asg (.t 10))] false [0,1,5,7,8]) (zes))) (zer)
def zep:ACode:=.seq (.cond (.t 9) (.skip) (.exit 0)) (zeq)
def zeo:ACode:=.seq (.reg 0 [o_ 9 (.bin .lss .other 2 (.t 8) (.t 7))] false [0,1,7,8,9]) (zep)
def zen:ACode:=.seq (.seq (.reg 0 [o_ 6 (.mov (.t 0)),o_ 7 (.len 23 (.t 6)),o_ 8 (.mov (.c (.int .i64 0)))] false [0,1,7,8]) (.block 0 (.loop (zeo)))) (.seq (.reg 0 [o_ 4 (.asg (.c (.int .i64 (-1))))] false [4]) (.ret))
def zem:ACode:=.seq (.reg 0 [o_ 4 (.asg (.c (.int .i64 0)))] false [0,1]) (zen)
def zbG:AFun:={ nt:=19,res:=[.t 4],code:=(zem) }
def zeC:ACode:=.cond (.t 6) (.reg 0 [o_ 7 (.mkif 39 (.c (.str ⟨#[99,97,110,110,111,116,32,98,101,32,110,101,103,97,116,105,118,101]⟩))),⟨none,.x (.pan (.t 7)),none⟩] false [0,1]) (.skip)
def zeB:ACode:=.cond (.t 16) (.reg 1 [o_ 17 (.mov (.t 0)),o_ 18 (.mov (.t 0)),o_ 19 (.x (.cap 50 (.t 18))),o_ 20 (.slc 50 1 (.t 17) none (some (.t 19))),o_ 21 (.mov (.t 1)),o_ 22 (.x (.appZ 0 50 2 1 [.int .u8 0] (.t 20) (.t 21))),o_ 23 (.mov (.t 0)),o_ 24 (.len 50 (.t 23)),o_ 25 (.slc 50 1 (.t 22) none (some (.t 24))),o_ 0 (.asg (.t 25))] false [0]) (.skip)
def zeA:ACode:=.seq (.reg 0 [o_ 15 (.mov (.t 1)),o_ 16 (.bin .gtr .other 2 (.t 15) (.c (.int .i64 0)))] false [0,1,16]) (zeB)
def zez:ACode:=.seq (.reg 0 [o_ 26 (.mov (.t 0)),o_ 4 (.asg (.t 26))] false [4]) (.ret)
def zey:ACode:=.seq (.seq (.reg 0 [o_ 8 (.mov (.t 1)),o_ 9 (.mov (.t 0)),o_ 10 (.x (.cap 50 (.t 9))),o_ 11 (.mov (.t 0)),o_ 12 (.len 50 (.t 11)),o_ 13 (.bin .sub .other 2 (.t 10) (.t 12)),o_ 14 (.bin .sub .other 2 (.t 8) (.t 13)),o_ 1 (.asg (.t 14))] false [0,1]) (zeA)) (zez)
def zex:ACode:=.seq (.seq (.reg 0 [o_ 5 (.mov (.t 1)),o_ 6 (.bin .lss .other 2 (.t 5) (.c (.int .i64 0)))] false [0,1,6]) (zeC)) (zey)
def zew:ACode:=.seq (.reg 0 [o_ 4 (.asg (.c .nils))] false [0,1]) (zex)
def zbI:AFun:={ nt:=27,res:=[.t 4],code:=(zew) }
def zgA:ACode:=.cond (.t 17) (.skip) (.reg 0 [o_ 19 (.bin .eql .other 7 (.t 7) (.c (.int .u8 3))),o_ 17 (.asg (.t 19))] false [0,3,7,17])
def zgz:ACode:=.cond (.t 37) (.reg 0 [o_ 4 (.asg (.c (.int .u8 0)))] false [0,3,4]) (.skip)
def zgy:ACode:=.reg 0 [o_ 45 (.mov (.t 0)),o_ 46 (.faddr 3 4 4 (.t 3)),o_ 47 (.load 51 false 1 (.t 46)),o_ 48 (.calls 71 [.t 45,.t 47])] false []
def zgx:ACode:=.seq (.reg 0 [o_ 38 (.mov (.t 0)),o_ 39 (.faddr 3 5 5 (.t 3)),o_ 40 (.load 4 false 1 (.t 39)),o_ 41 (.faddr 3 4 4 (.t 3)),o_ 42 (.load 51 false 1 (.t 41)),o_ 43 (.mov (.t 4)),o_ 44 (.calls 70 [.t 38,.t 40,.t 42,.t 43])] false [0,3]) (zgy)
def zgw:ACode:=.seq (.seq (.reg 0 [o_ 35 (.faddr 3 0 0 (.t 3)),o_ 36 (.load 7 false 1 (.t 35)),o_ 37 (.bin .eql .other 7 (.t 36) (.c (.int .u8 3)))] false [0,3,4,37]) (zgz)) (zgx)
def zgv:ACode:=.seq (.reg 0 [o_ 33 (.faddr 3 4 4 (.t 3)),o_ 34 (.load 51 false 1 (.t 33)),o_ 4 (.asg (.t 34))] false [0,3,4]) (zgw)
def zgu:ACode:=.reg 0 [o_ 82 (.mov (.t 0)),o_ 83 (.faddr 3 4 4 (.t 3)),o_ 84 (.load 51 false 1 (.t 83)),o_ 85 (.calls 71 [.t 82,.t 84])] false []
def zgt:ACode:=.seq (.reg 0 [o_ 74 (.mov (.t 0)),o_ 75 (.faddr 3 6 6 (.t 3)),o_ 76 (.load 4 false 1 (.t 75)),o_ 77 (.faddr 3 4 4 (.t 3)),o_ 78 (.load 51 false 1 (.t 77)),o_ 79 (.faddr 3 4 4 (.t 3)),o_ 80 (.load 51 false 1 (.t 79)),o_ 81 (.calls 70 [.t 74,.t 76,.t 78,.t 80])] false [0,3]) (zgu)
def zgs:ACode:=.seq (.reg 0 [o_ 66 (.mov (.t 0)),o_ 67 (.faddr 3 5 5 (.t 3)),o_ 68 (.load 4 false 1 (.t 67)),o_ 69 (.faddr 3 4 4 (.t 3)),o_ 70 (.load 51 false 1 (.t 69)),o_ 71 (.faddr 3 4 4 (.t 3)),o_ 72 (.load 51 false 1 (.t 71)),o_ 73 (.calls 70 [.t 66,.t 68,.t 70,.t 72])] false [0,3]) (zgt)
def zgb:ACode:=.seq (.reg 0 [o_ 64 (.mov (.t 0)),o_ 65 (.calls 40 [.t 64,.c (.int .u8 127)])] false [0,3]) (zgs)
def zga:ACode:=.reg 0 [o_ 94 (.mov (.t 0)),o_ 95 (.calls 69 [.t 94])] false []
def zfZ:ACode:=.reg 0 [o_ 107 (.mov (.t 0)),o_ 108 (.mov (.t 5)),o_ 109 (.calls 71 [.t 107,.t 108])] false []
def zfY:ACode:=.seq (.reg 0 [o_ 104 (.mov (.t 0)),o_ 105 (.mov (.t 5)),o_ 106 (.calls 40 [.t 104,.t 105])] false [0,5]) (zfZ)
def zfX:ACode:=.seq (.reg 0 [o_ 100 (.mov (.t 0)),o_ 101 (.faddr 3 1 1 (.t 3)),o_ 102 (.load 27 false 1 (.t 101)),o_ 103 (.calls 72 [.t 100,.t 102]),o_ 5 (.asg (.t 103))] false [0,5]) (zfY)
def zfW:ACode:=.reg 0 [o_ 124 (.mov (.t 0)),o_ 125 (.calls 69 [.t 124])] false []
def zfV:ACode:=.reg 0 [o_ 154 (.mov (.t 0)),o_ 155 (.mov (.t 0)),o_ 156 (.faddr 3 1 1 (.t 3)),o_ 157 (.load 27 false 1 (.t 156)),o_ 158 (.calls 76 [.t 155,.t 157]),o_ 159 (.calls 75 [.t 154,.t 158])] false []
def zfU:ACode:=.seq (.reg 0 [o_ 152 (.mov (.t 0)),o_ 153 (.calls 40 [.t 152,.c (.int .u8 127)])] false [0,3]) (zfV)
def zfT:ACode:=.cond (.t 134) (.seq (.reg 0 [o_ 136 (.mov (.t 0)),o_ 137 (.mov (.t 0)),o_ 138 (.nilchk (.t 137)),o_ 139 (.faddr 46 7 15 (.t 138)),o_ 140 (.load 12 false 1 (.t 139)),o_ 141 (.mov (.t 140)),p_ 142 (.mov (.t 0)) 5 141 false,p_ 143 (.nilchk (.t 142)) 5 141 false,p_ 144 (.faddr 46 0 0 (.t 143)) 5 141 false,p_ 145 (.faddr 1 2 2 (.t 144)) 5 141 false,p_ 146 (.load 18 false 1 (.t 145)) 5 141 false,p_ 147 (.len 18 (.t 146)) 5 141 false,p_ 148 (.bin .eql .other 2 (.t 147) (.c (.int .i64 0))) 5 141 false,o_ 149 (.pick (.t 141) (.c (.bool true)) (.t 148)),o_ 150 (.nilchk (.t 136)),o_ 151 (.faddr 46 7 15 (.t 150)),⟨none,.store 12 1 (.t 151) (.t 149),none⟩] false [0,3]) (zfU)) (.reg 0 [o_ 8 (.mov (.t 0)),o_ 9 (.nilchk (.t 8)),o_ 10 (.faddr 46 7 15 (.t 9)),⟨none,.store 12 1 (.t 10) (.c (.bool true)),none⟩] false [])
def zfS:ACode:=.cond (.t 126) (.reg 0 [o_ 128 (.mov (.t 0)),o_ 129 (.mov (.t 0)),o_ 130 (.faddr 3 1 1 (.t 3)),o_ 131 (.load 27 false 1 (.t 130)),o_ 132 (.calls 74 [.t 129,.t 131]),o_ 133 (.calls 75 [.t 128,.t 132])] false []) (.seq (.reg 0 [o_ 135 (.bin .eql .other 7 (.t 7) (.c (.int .u8 17))),o_ 134 (.asg (.t 135))] false [0,3,134]) (zfT))
def zfR:ACode:=.cond (.t 115) (.seq (.reg 0 [o_ 117 (.mov (.t 0)),o_ 118 (.mov (.t 0)),o_ 119 (.nilchk (.t 118)),o_ 120 (.faddr 46 1 8 (.t 119)),o_ 121 (.faddr 43 1 1 (.t 120)),o_ 122 (.load 51 false 1 (.t 121)),o_ 123 (.calls 40 [.t 117,.t 122])] false [0]) (zfW)) (.seq (.reg 0 [o_ 127 (.bin .eql .other 7 (.t 7) (.c (.int .u8 16))),o_ 126 (.asg (.t 127))] false [0,3,7,126]) (zfS))
def zfQ:ACode:=.cond (.t 110) (.reg 0 [o_ 112 (.mov (.t 0)),o_ 113 (.load 3 true 8 (.t 3)),o_ 114 (.calls 73 [.t 112,.t 113])] false []) (.seq (.reg 0 [o_ 116 (.bin .eql .other 7 (.t 7) (.c (.int .u8 15))),o_ 115 (.asg (.t 116))] false [0,3,7,115]) (zfR))
def zfP:ACode:=.cond (.t 96) (.seq (.reg 0 [o_ 98 (.mov (.t 0)),o_ 99 (.calls 40 [.t 98,.c (.int .u8 127)])] false [0,3]) (zfX)) (.seq (.reg 0 [o_ 111 (.bin .eql .other 7 (.t 7) (.c (.int .u8 14))),o_ 110 (.asg (.t 111))] false [0,3,7,110]) (zfQ))
def zfO:ACode:=.cond (.t 86) (.seq (.reg 0 [o_ 88 (.mov (.t 0)),o_ 89 (.mov (.t 0)),o_ 90 (.faddr 3 1 1 (.t 3)),o_ 91 (.load 27 false 1 (.t 90)),o_ 92 (.calls 72 [.t 89,.t 91]),o_ 93 (.calls 40 [.t 88,.t 92])] false [0]) (zga)) (.seq (.reg 0 [o_ 97 (.bin .eql .other 7 (.t 7) (.c (.int .u8 13))),o_ 96 (.asg (.t 97))] false [0,3,7,96]) (zfP))
def zfN:ACode:=.cond (.t 49) (.seq (.reg 0 [o_ 51 (.mov (.t 0)),o_ 52 (.mov (.t 0)),o_ 53 (.nilchk (.t 52)),o_ 54 (.faddr 46 7 15 (.t 53)),o_ 55 (.load 12 false 1 (.t 54)),o_ 56 (.mov (.t 55)),p_ 57 (.faddr 3 4 4 (.t 3)) 5 56 false,p_ 58 (.load 51 false 1 (.t 57)) 5 56 false,p_ 59 (.callp 50 [.t 58]) 5 56 false,p_ 60 (.un .not (.t 59)) 5 56 false,o_ 61 (.pick (.t 56) (.c (.bool true)) (.t 60)),o_ 62 (.nilchk (.t 51)),o_ 63 (.faddr 46 7 15 (.t 62)),⟨none,.store 12 1 (.t 63) (.t 61),none⟩] false [0,3]) (zgb)) (.seq (.reg 0 [o_ 87 (.bin .eql .other 7 (.t 7) (.c (.int .u8 12))),o_ 86 (.asg (.t 87))] false [0,3,7,86]) (zfO))
def zfM:ACode:=.cond (.t 17) (.seq (.reg 0 [o_ 20 (.mov (.t 0)),o_ 21 (.mov (.t 0)),o_ 22 (.nilchk (.t 21)),o_ 23 (.faddr 46 7 15 (.t 22)),o_ 24 (.load 12 false 1 (.t 23)),o_ 25 (.mov (.t 24)),p_ 26 (.faddr 3 4 4 (.t 3)) 5 25 false,p_ 27 (.load 51 false 1 (.t 26)) 5 25 false,p_ 28 (.callp 50 [.t 27]) 5 25 false,p_ 29 (.un .not (.t 28)) 5 25 false,o_ 30 (.pick (.t 25) (.c (.bool true)) (.t 29)),o_ 31 (.nilchk (.t 20)),o_ 32 (.faddr 46 7 15 (.t 31)),⟨none,.store 12 1 (.t 32) (.t 30),none⟩] false [0,3]) (zgv)) (.seq (.reg 0 [o_ 50 (.bin .eql .other 7 (.t 7) (.c (.int .u8 4))),o_ 49 (.asg (.t 50))] false [0,3,7,49]) (zfN))
def zfL:ACode:=.cond (.t 15) (.skip) (.seq (.seq (.reg 0 [o_ 18 (.bin .eql .other 7 (.t 7) (.c (.int .u8 2))),o_ 17 (.asg (.t 18))] false [0,3,7,17]) (zgA)) (zfM))
def zfK:ACode:=.cond (.t 11) (.reg 0 [o_ 13 (.mov (.t 0)),o_ 14 (.calls 69 [.t 13])] false []) (.seq (.reg 0 [o_ 16 (.bin .eql .other 7 (.t 7) (.c (.int .u8 1))),o_ 15 (.asg (.t 16))] false [0,3,7,15]) (zfL))
def zfJ:ACode:=.block 0 (.seq (.reg 0 [o_ 12 (.bin .eql .other 7 (.t 7) (.c (.int .u8 0))),o_ 11 (.asg (.t 12))] false [0,3,7,11]) (zfK))
def zfI:ACode:=.seq (.reg 0 [o_ 6 (.faddr 3 0 0 (.t 3)),o_ 7 (.load 7 false 1 (.t 6))] false [0,3,7]) (zfJ)
def zfH:ACode:=.seq (.reg 1 [o_ 3 (.box 0 3 (.t 1))] false [0,3]) (zfI)
def zcF:AFun:={ nt:=160,res:=[],code:=(zfH) }
def zhl:ACode:=.reg 0 [o_ 22 (.mov (.t 0)),o_ 23 (.mov (.t 0)),o_ 24 (.mov (.t 4)),o_ 25 (.calls 40 [.t 23,.t 24]),o_ 26 (.calls 71 [.t 22,.t 25])] false []
def zhk:ACode:=.seq (.reg 0 [o_ 20 (.mov (.t 0)),o_ 21 (.calls 40 [.t 20,.c (.int .u8 1)]),o_ 4 (.asg (.t 21))] false [0,4]) (zhl)
def zhj:ACode:=.reg 0 [o_ 52 (.mov (.t 0)),o_ 53 (.mov (.t 5)),o_ 54 (.calls 71 [.t 52,.t 53])] false []
def zhi:ACode:=.seq (.reg 0 [o_ 49 (.mov (.t 0)),o_ 50 (.mov (.t 5)),o_ 51 (.calls 40 [.t 49,.t 50])] false [0,5]) (zhj)
def zhh:ACode:=.reg 0 [o_ 82 (.mov (.t 0)),o_ 83 (.faddr 21 0 0 (.t 6)),o_ 84 (.load 51 false 1 (.t 83)),o_ 85 (.calls 40 [.t 82,.t 84])] false []
def zhg:ACode:=.seq (.reg 0 [o_ 70 (.mov (.t 0)),o_ 71 (.mov (.t 0)),o_ 72 (.nilchk (.t 71)),o_ 73 (.faddr 46 7 15 (.t 72)),o_ 74 (.load 12 false 1 (.t 73)),o_ 75 (.mov (.t 74)),p_ 76 (.faddr 21 1 1 (.t 6)) 5 75 false,p_ 77 (.load 12 false 1 (.t 76)) 5 75 false,p_ 78 (.un .not (.t 77)) 5 75 false,o_ 79 (.pick (.t 75) (.c (.bool true)) (.t 78)),o_ 80 (.nilchk (.t 70)),o_ 81 (.faddr 46 7 15 (.t 80)),⟨none,.store 12 1 (.t 81) (.t 79),none⟩] false [0,6]) (zhh)
def zhf:ACode:=.cond (.t 64) (.seq (.reg 1 [o_ 66 (.mov (.t 0)),o_ 67 (.faddr 3 1 1 (.t 3)),o_ 68 (.load 27 false 1 (.t 67)),o_ 69 (.calls 78 [.t 66,.t 68]),o_ 6 (.alloc 0 21 [.int .u8 0,.bool false,.int .u8 0,.int .i64 0,.int .u32 0,.int .u32 0,.int .u8 0,.nils,.nils,.nils]),⟨none,.store 21 10 (.t 6) (.t 69),none⟩] false [0,6]) (zhg)) (.reg 0 [o_ 9 (.mov (.t 0)),o_ 10 (.load 3 true 8 (.t 3)),o_ 11 (.calls 79 [.t 9,.t 10])] false [])
def zhe:ACode:=.cond (.t 55) (.reg 0 [o_ 57 (.mov (.t 0)),o_ 58 (.mov (.t 0)),o_ 59 (.faddr 3 1 1 (.t 3)),o_ 60 (.load 27 false 1 (.t 59)),o_ 61 (.calls 78 [.t 58,.t 60]),o_ 62 (.fld 21 0 0 false 1 (.t 61)),o_ 63 (.calls 71 [.t 57,.t 62])] false []) (.seq (.reg 0 [o_ 65 (.bin .eql .other 7 (.t 8) (.c (.int .u8 36))),o_ 64 (.asg (.t 65))] false [0,3,64]) (zhf))
def zhd:ACode:=.cond (.t 43) (.seq (.reg 0 [o_ 45 (.mov (.t 0)),o_ 46 (.faddr 3 1 1 (.t 3)),o_ 47 (.load 27 false 1 (.t 46)),o_ 48 (.calls 77 [.t 45,.t 47]),o_ 5 (.asg (.t 48))] false [0,5]) (zhi)) (.seq (.reg 0 [o_ 56 (.bin .eql .other 7 (.t 8) (.c (.int .u8 35))),o_ 55 (.asg (.t 56))] false [0,3,8,55]) (zhe))
def zgr:ACode:=.cond (.t 35) (.reg 0 [o_ 37 (.mov (.t 0)),o_ 38 (.mov (.t 0)),o_ 39 (.faddr 3 1 1 (.t 3)),o_ 40 (.load 27 false 1 (.t 39)),o_ 41 (.calls 77 [.t 38,.t 40]),o_ 42 (.calls 40 [.t 37,.t 41])] false []) (.seq (.reg 0 [o_ 44 (.bin .eql .other 7 (.t 8) (.c (.int .u8 34))),o_ 43 (.asg (.t 44))] false [0,3,8,43]) (zhd))
def zgq:ACode:=.cond (.t 27) (.reg 0 [o_ 29 (.mov (.t 0)),o_ 30 (.mov (.t 0)),o_ 31 (.faddr 3 1 1 (.t 3)),o_ 32 (.load 27 false 1 (.t 31)),o_ 33 (.calls 77 [.t 30,.t 32]),o_ 34 (.calls 71 [.t 29,.t 33])] false []) (.seq (.reg 0 [o_ 36 (.bin .eql .other 7 (.t 8) (.c (.int .u8 33))),o_ 35 (.asg (.t 36))] false [0,3,8,35]) (zgr))
def zgp:ACode:=.cond (.t 16) (.seq (.reg 0 [o_ 18 (.mov (.t 0)),o_ 19 (.calls 40 [.t 18,.c (.int .u8 127)])] false [0]) (zhk)) (.seq (.reg 0 [o_ 28 (.bin .eql .other 7 (.t 8) (.c (.int .u8 32))),o_ 27 (.asg (.t 28))] false [0,3,8,27]) (zgq))
def zgo:ACode:=.cond (.t 12) (.reg 0 [o_ 14 (.mov (.t 0)),o_ 15 (.calls 40 [.t 14,.c (.int .u8 1)])] false []) (.seq (.reg 0 [o_ 17 (.bin .eql .other 7 (.t 8) (.c (.int .u8 27))),o_ 16 (.asg (.t 17))] false [0,3,8,16]) (zgp))
def zgn:ACode:=.block 0 (.seq (.reg 0 [o_ 13 (.bin .eql .other 7 (.t 8) (.c (.int .u8 26))),o_ 12 (.asg (.t 13))] false [0,3,8,12]) (zgo))
def zgm:ACode:=.seq (.reg 0 [o_ 7 (.faddr 3 0 0 (.t 3)),o_ 8 (.load 7 false 1 (.t 7))] false [0,3,8]) (zgn)
def zgl:ACode:=.seq (.reg 1 [o_ 3 (.box 0 3 (.t 1))] false [0,3]) (zgm)
def zcZ:AFun:={ nt:=86,res:=[],code:=(zgl) }
def zry:ACode:=.cond (.t 19) (.seq (.reg 0 [o_ 2 (.asg (.c .nils)),o_ 3 (.asg (.c (.int .u8 0))),o_ 4 (.asg (.c (.bool false)))] false [2,3,4]) (.ret)) (.skip)
def zrx:ACode:=.cond (.t 52) (.seq (.reg 1 [o_ 55 (.mov (.t 6)),o_ 56 (.bslice 0 36 [.int .u8 0] 2 [(0,.c (.int .u8 127)),(1,.t 55)]),o_ 2 (.asg (.t 56)),o_ 3 (.asg (.c (.int .u8 0))),o_ 4 (.asg (.c (.bool true)))] false [2,3,4]) (.ret)) (.skip)
def zrw:ACode:=.cond (.t 42) (.seq (.reg 1 [o_ 50 (.bslice 0 36 [.int .u8 0] 1 [(0,.c (.int .u8 127))]),o_ 51 (.mov (.t 6)),o_ 2 (.asg (.t 50)),o_ 3 (.asg (.t 51)),o_ 4 (.asg (.c (.bool true)))] false [2,3,4]) (.ret)) (.seq (.reg 0 [o_ 53 (.mov (.t 7)),o_ 54 (.bin .eql .other 2 (.t 53) (.c (.int .i64 4))),o_ 52 (.asg (.t 54))] false [0,6,52]) (zrx))
def zrv:ACode:=.cond (.t 38) (.seq (.reg 1 [o_ 41 (.bslice 0 36 [.int .u8 0] 1 [(0,.c (.int .u8 127))]),o_ 2 (.asg (.t 41)),o_ 3 (.asg (.c (.int .u8 127))),o_ 4 (.asg (.c (.bool true)))] false [2,3,4]) (.ret)) (.seq (.reg 0 [o_ 43 (.mov (.t 7)),o_ 44 (.bin .eql .other 2 (.t 43) (.c (.int .i64 4))),o_ 45 (.mov (.t 44)),p_ 46 (.mov (.t 5)) 2 45 true,p_ 47 (.slcS 39 (.t 46) (some (.c (.int .i64 4))) none) 2 45 true,p_ 48 (.callp 82 [.t 47,.c (.str ⟨#[108,111,97,100]⟩)]) 2 45 true,o_ 49 (.pick (.t 45) (.t 48) (.c (.bool false))),o_ 42 (.asg (.t 49))] false [0,6,7,42]) (zrw))
def zru:ACode:=.cond (.t 35) (.seq (.reg 0 [o_ 2 (.asg (.c .nils)),o_ 3 (.asg (.c (.int .u8 127))),o_ 4 (.asg (.c (.bool true)))] false [2,3,4]) (.ret)) (.seq (.reg 0 [o_ 39 (.mov (.t 5)),o_ 40 (.bin .eql .other 39 (.t 39) (.c (.str b0_))),o_ 38 (.asg (.t 40))] false [0,5,6,7,38]) (zrv))
def zrt:ACode:=.cond (.t 27) (.seq (.reg 0 [o_ 34 (.mov (.t 6)),o_ 2 (.asg (.c .nils)),o_ 3 (.asg (.t 34)),o_ 4 (.asg (.c (.bool true)))] false [2,3,4]) (.ret)) (.seq (.reg 0 [o_ 36 (.mov (.t 5)),o_ 37 (.bin .eql .other 39 (.t 36) (.c (.str b1_))),o_ 35 (.asg (.t 37))] false [0,5,6,7,35]) (zru))
def zrs:ACode:=.cond (.t 63) (.reg 0 [o_ 11 (.asg (.c (.int .u8 126)))] false [9,11]) (.skip)
def zrr:ACode:=.cond (.t 68) (.skip) (.reg 0 [o_ 70 (.bin .eql .other 39 (.t 64) (.c (.str b37_))),o_ 68 (.asg (.t 70))] false [11,64,68])
def zrq:ACode:=.cond (.t 76) (.skip) (.reg 0 [o_ 79 (.bin .eql .other 39 (.t 64) (.c (.str b33_))),o_ 76 (.asg (.t 79))] false [11,64,76])
def zpK:ACode:=.cond (.t 76) (.skip) (.seq (.reg 0 [o_ 78 (.bin .eql .other 39 (.t 64) (.c (.str b63_))),o_ 76 (.asg (.t 78))] false [11,64,76]) (zrq))
def zpJ:ACode:=.cond (.t 83) (.skip) (.reg 0 [o_ 93 (.bin .eql .other 39 (.t 64) (.c (.str b72_))),o_ 83 (.asg (.t 93))] false [11,83])
def zpI:ACode:=.cond (.t 83) (.skip) (.seq (.reg 0 [o_ 92 (.bin .eql .other 39 (.t 64) (.c (.str b73_))),o_ 83 (.asg (.t 92))] false [11,64,83]) (zpJ))
def zpH:ACode:=.cond (.t 83) (.skip) (.seq (.reg 0 [o_ 91 (.bin .eql .other 39 (.t 64) (.c (.str b74_))),o_ 83 (.asg (.t 91))] false [11,64,83]) (zpI))
def zpG:ACode:=.cond (.t 83) (.skip) (.seq (.reg 0 [o_ 90 (.bin .eql .other 39 (.t 64) (.c (.str b75_))),o_ 83 (.asg (.t 90))] false [11,64,83]) (zpH))
def zpF:ACode:=.cond (.t 83) (.skip) (.seq (.reg 0 [o_ 89 (.bin .eql .other 39 (.t 64) (.c (.str b76_))),o_ 83 (.asg (.t 89))] false [11,64,83]) (zpG))
def zpE:ACode:=.cond (.t 83) (.skip) (.seq (.reg 0 [o_ 88 (.bin .eql .other 39 (.t 64) (.c (.str b77_))),o_ 83 (.asg (.t 88))] false [11,64,83]) (zpF))
def zpD:ACode:=.cond (.t 83) (.skip) (.seq (.reg 0 [o_ 87 (.bin .eql .other 39 (.t 64) (.c (.str b78_))),o_ 83 (.asg (.t 87))] false [11,64,83]) (zpE))
def zpC:ACode:=.cond (.t 83) (.skip) (.seq (.reg 0 [o_ 86 (.bin .eql .other 39 (.t 64) (.c (.str b79_))),o_ 83 (.asg (.t 86))] false [11,64,83]) (zpD))
def zpB:ACode:=.cond (.t 83) (.skip) (.seq (.reg 0 [o_ 85 (.bin .eql .other 39 (.t 64) (.c (.str b136_))),o_ 83 (.asg (.t 85))] false [11,64,83]) (zpC))
def zpA:ACode:=.cond (.t 83) (.seq (.reg 1 [o_ 94 (.mov (.t 11)),o_ 95 (.mov (.t 11)),o_ 96 (.bslice 0 36 [.int .u8 0] 2 [(0,.t 94),(1,.t 95)]),o_ 2 (.asg (.t 96)),o_ 3 (.asg (.c (.int .u8 127))),o_ 4 (.asg (.c (.bool true)))] false [2,3,4]) (.ret)) (.skip)
def zpz:ACode:=.cond (.t 76) (.seq (.reg 1 [o_ 80 (.mov (.t 11)),o_ 81 (.bslice 0 36 [.int .u8 0] 1 [(0,.t 80)]),o_ 82 (.mov (.t 11)),o_ 2 (.asg (.t 81)),o_ 3 (.asg (.t 82)),o_ 4 (.asg (.c (.bool true)))] false [2,3,4]) (.ret)) (.seq (.seq (.reg 0 [o_ 84 (.bin .eql .other 39 (.t 64) (.c (.str b137_))),o_ 83 (.asg (.t 84))] false [11,64,83]) (zpB)) (zpA))
def zpy:ACode:=.cond (.t 72) (.seq (.reg 1 [o_ 74 (.mov (.t 11)),o_ 75 (.bslice 0 36 [.int .u8 0] 1 [(0,.t 74)]),o_ 2 (.asg (.t 75)),o_ 3 (.asg (.c (.int .u8 127))),o_ 4 (.asg (.c (.bool true)))] false [2,3,4]) (.ret)) (.seq (.seq (.reg 0 [o_ 77 (.bin .eql .other 39 (.t 64) (.c (.str b64_))),o_ 76 (.asg (.t 77))] false [11,64,76]) (zpK)) (zpz))
def zpx:ACode:=.cond (.t 68) (.seq (.reg 1 [o_ 71 (.bslice 0 36 [.int .u8 0] 1 [(0,.c (.int .u8 127))]),o_ 2 (.asg (.t 71)),o_ 3 (.asg (.c (.int .u8 126))),o_ 4 (.asg (.c (.bool true)))] false [2,3,4]) (.ret)) (.seq (.reg 0 [o_ 73 (.bin .eql .other 39 (.t 64) (.c (.str b50_))),o_ 72 (.asg (.t 73))] false [11,64,72]) (zpy))
def zpw:ACode:=.cond (.t 65) (.seq (.reg 1 [o_ 67 (.bslice 0 36 [.int .u8 0] 1 [(0,.c (.int .u8 126))]),o_ 2 (.asg (.t 67)),o_ 3 (.asg (.c (.int .u8 127))),o_ 4 (.asg (.c (.bool true)))] false [2,3,4]) (.ret)) (.seq (.seq (.reg 0 [o_ 69 (.bin .eql .other 39 (.t 64) (.c (.str b38_))),o_ 68 (.asg (.t 69))] false [11,64,68]) (zrr)) (zpx))
def zpv:ACode:=.block 1 (.seq (.reg 0 [o_ 66 (.bin .eql .other 39 (.t 64) (.c (.str b80_))),o_ 65 (.asg (.t 66))] false [11,64,65]) (zpw))
def zpu:ACode:=.seq (.reg 1 [o_ 97 (.mov (.t 11)),o_ 98 (.mov (.t 11)),o_ 99 (.bslice 0 36 [.int .u8 0] 2 [(0,.t 97),(1,.t 98)]),o_ 100 (.mov (.t 11)),o_ 2 (.asg (.t 99)),o_ 3 (.asg (.t 100)),o_ 4 (.asg (.c (.bool true)))] false [2,3,4]) (.ret)
def zpt:ACode:=.seq (.seq (.reg 0 [o_ 64 (.mov (.t 9))] false [11,64]) (zpv)) (zpu)
def zps:ACode:=.seq (.seq (.reg 0 [o_ 62 (.mov (.t 10)),o_ 63 (.bin .eql .other 2 (.t 62) (.c (.int .i64 64)))] false [9,11,63]) (zrs)) (zpt)
def zpr:ACode:=.seq (.reg 0 [o_ 11 (.asg (.c (.int .u8 127)))] false [9,10,11]) (zps)
def zpq:ACode:=.seq (.reg 0 [o_ 58 (.mov (.t 0)),o_ 59 (.callp 83 [.t 58]),o_ 57 (.mov (.t 59)),o_ 60 (.ext (.t 57) 0),o_ 61 (.ext (.t 57) 1),o_ 9 (.asg (.t 60)),o_ 10 (.asg (.t 61))] false [9,10]) (zpr)
def zpp:ACode:=.seq (.block 0 (.seq (.reg 0 [o_ 28 (.mov (.t 7)),o_ 29 (.bin .eql .other 2 (.t 28) (.c (.int .i64 1))),o_ 30 (.mov (.t 29)),p_ 31 (.mov (.t 7)) 2 30 false,p_ 32 (.bin .eql .other 2 (.t 31) (.c (.int .i64 2))) 2 30 false,o_ 33 (.pick (.t 30) (.c (.bool true)) (.t 32)),o_ 27 (.asg (.t 33))] false [0,5,6,7,27]) (zrt))) (zpq)
def zpo:ACode:=.seq (.reg 0 [o_ 23 (.mov (.t 0)),o_ 24 (.callp 62 [.t 23]),o_ 22 (.mov (.t 24)),o_ 25 (.ext (.t 22) 0),o_ 26 (.ext (.t 22) 1),o_ 7 (.asg (.t 25)),o_ 8 (.asg (.t 26))] false [0,5,6,7]) (zpp)
def zpn:ACode:=.seq (.reg 0 [o_ 20 (.mov (.t 5)),o_ 21 (.callp 81 [.t 20]),o_ 6 (.asg (.t 21))] false [0,5,6]) (zpo)
def zpm:ACode:=.seq (.seq (.reg 0 [o_ 14 (.mov (.t 5)),o_ 15 (.bin .eql .other 39 (.t 14) (.c (.str b156_))),o_ 16 (.mov (.t 15)),p_ 17 (.mov (.t 0)) 2 16 false,p_ 18 (.bin .leq .other 7 (.t 17) (.c (.int .u8 36))) 2 16 false,o_ 19 (.pick (.t 16) (.c (.bool true)) (.t 18))] false [0,5,19]) (zry)) (zpn)
def zpl:ACode:=.seq (.reg 0 [o_ 12 (.mov (.t 0)),o_ 13 (.callp 80 [.t 12]),o_ 5 (.asg (.t 13))] false [0,5]) (zpm)
def zpk:ACode:=.seq (.reg 0 [o_ 2 (.asg (.c .nils)),o_ 3 (.asg (.c (.int .u8 0))),o_ 4 (.asg (.c (.bool false)))] false [0]) (zpl)
def zom:AFun:={ nt:=101,res:=[.t 2,.t 3,.t 4],code:=(zpk) }
def zrT:ACode:=.cond (.t 8) (.seq (.reg 0 [o_ 2 (.asg (.c (.int .i64 0))),o_ 3 (.asg (.c (.bool false)))] false [2,3]) (.ret)) (.skip)
def zrS:ACode:=.cond (.t 14) (.skip) (.reg 0 [o_ 22 (.bin .eql .other 39 (.t 9) (.c (.str b5_))),o_ 14 (.asg (.t 22))] false [4,9,14])
def zrR:ACode:=.cond (.t 14) (.skip) (.seq (.reg 0 [o_ 21 (.bin .eql .other 39 (.t 9) (.c (.str b6_))),o_ 14 (.asg (.t 21))] false [4,9,14]) (zrS))
def zrQ:ACode:=.cond (.t 14) (.skip) (.seq (.reg 0 [o_ 20 (.bin .eql .other 39 (.t 9) (.c (.str b8_))),o_ 14 (.asg (.t 20))] false [4,9,14]) (zrR))
def zrP:ACode:=.cond (.t 14) (.skip) (.seq (.reg 0 [o_ 19 (.bin .eql .other 39 (.t 9) (.c (.str b9_))),o_ 14 (.asg (.t 19))] false [4,9,14]) (zrQ))
def zrO:ACode:=.cond (.t 14) (.skip) (.seq (.reg 0 [o_ 18 (.bin .eql .other 39 (.t 9) (.c (.str b10_))),o_ 14 (.asg (.t 18))] false [4,9,14]) (zrP))
def zrN:ACode:=.cond (.t 14) (.skip) (.seq (.reg 0 [o_ 17 (.bin .eql .other 39 (.t 9) (.c (.str b46_))),o_ 14 (.asg (.t 17))] false [4,9,14]) (zrO))
def zrM:ACode:=.cond (.t 14) (.skip) (.seq (.reg 0 [o_ 16 (.bin .eql .other 39 (.t 9) (.c (.str b41_))),o_ 14 (.asg (.t 16))] false [4,9,14]) (zrN))
def zrL:ACode:=.cond (.t 23) (.skip) (.reg 0 [o_ 25 (.bin .eql .other 39 (.t 9) (.c (.str b0_))),o_ 23 (.asg (.t 25))] false [4,9,23])
def zqs:ACode:=.cond (.t 26) (.skip) (.reg 0 [o_ 28 (.bin .eql .other 39 (.t 9) (.c (.str b44_))),o_ 26 (.asg (.t 28))] false [4,9,26])
def zqr:ACode:=.cond (.t 33) (.seq (.reg 0 [o_ 2 (.asg (.c (.int .i64 9))),o_ 3 (.asg (.c (.bool true)))] false [2,3]) (.ret)) (.skip)
def zqq:ACode:=.cond (.t 31) (.seq (.reg 0 [o_ 2 (.asg (.c (.int .i64 8))),o_ 3 (.asg (.c (.bool true)))] false [2,3]) (.ret)) (.seq (.reg 0 [o_ 34 (.bin .eql .other 39 (.t 9) (.c (.str b2_))),o_ 33 (.asg (.t 34))] false [4,33]) (zqr))
def zqp:ACode:=.cond (.t 29) (.seq (.reg 0 [o_ 2 (.asg (.c (.int .i64 7))),o_ 3 (.asg (.c (.bool true)))] false [2,3]) (.ret)) (.seq (.reg 0 [o_ 32 (.bin .eql .other 39 (.t 9) (.c (.str b13_))),o_ 31 (.asg (.t 32))] false [4,9,31]) (zqq))
def zqo:ACode:=.cond (.t 26) (.seq (.reg 0 [o_ 2 (.asg (.c (.int .i64 6))),o_ 3 (.asg (.c (.bool true)))] false [2,3]) (.ret)) (.seq (.reg 0 [o_ 30 (.bin .eql .other 39 (.t 9) (.c (.str b125_))),o_ 29 (.asg (.t 30))] false [4,9,29]) (zqp))
def zqn:ACode:=.cond (.t 23) (.seq (.reg 0 [o_ 2 (.asg (.c (.int .i64 5))),o_ 3 (.asg (.c (.bool true)))] false [2,3]) (.ret)) (.seq (.seq (.reg 0 [o_ 27 (.bin .eql .other 39 (.t 9) (.c (.str b42_))),o_ 26 (.asg (.t 27))] false [4,9,26]) (zqs)) (zqo))
def zqm:ACode:=.cond (.t 14) (.seq (.reg 0 [o_ 2 (.asg (.c (.int .i64 3))),o_ 3 (.asg (.c (.bool true)))] false [2,3]) (.ret)) (.seq (.seq (.reg 0 [o_ 24 (.bin .eql .other 39 (.t 9) (.c (.str b1_))),o_ 23 (.asg (.t 24))] false [4,9,23]) (zrL)) (zqn))
def zql:ACode:=.cond (.t 12) (.seq (.reg 0 [o_ 2 (.asg (.c (.int .i64 2))),o_ 3 (.asg (.c (.bool true)))] false [2,3]) (.ret)) (.seq (.seq (.reg 0 [o_ 15 (.bin .eql .other 39 (.t 9) (.c (.str b132_))),o_ 14 (.asg (.t 15))] false [4,9,14]) (zrM)) (zqm))
def zqk:ACode:=.cond (.t 10) (.seq (.reg 0 [o_ 2 (.asg (.c (.int .i64 1))),o_ 3 (.asg (.c (.bool true)))] false [2,3]) (.ret)) (.seq (.reg 0 [o_ 13 (.bin .eql .other 39 (.t 9) (.c (.str b11_))),o_ 12 (.asg (.t 13))] false [4,9,12]) (zql))
def zqj:ACode:=.block 0 (.seq (.reg 0 [o_ 11 (.bin .eql .other 39 (.t 9) (.c (.str b12_))),o_ 10 (.asg (.t 11))] false [4,9,10]) (zqk))
def zqi:ACode:=.cond (.t 52) (.seq (.reg 0 [o_ 2 (.asg (.c (.int .i64 4))),o_ 3 (.asg (.c (.bool true)))] false [2,3]) (.ret)) (.skip)
def zqh:ACode:=.seq (.reg 0 [o_ 2 (.asg (.c (.int .i64 0))),o_ 3 (.asg (.c (.bool true)))] false [2,3]) (.ret)
def zqg:ACode:=.seq (.seq (.reg 0 [o_ 35 (.mov (.t 4)),o_ 36 (.slcS 39 (.t 35) (some (.c (.int .i64 1))) none),o_ 37 (.callp 82 [.t 36,.c (.str ⟨#[51,50,46,108,111,97,100]⟩)]),o_ 38 (.mov (.t 37)),p_ 39 (.mov (.t 4)) 3 38 false,p_ 40 (.slcS 39 (.t 39) (some (.c (.int .i64 1))) none) 3 38 false,p_ 41 (.callp 82 [.t 40,.c (.str ⟨#[54,52,46,108,111,97,100]⟩)]) 3 38 false,o_ 42 (.pick (.t 38) (.c (.bool true)) (.t 41)),o_ 43 (.mov (.t 42)),p_ 44 (.mov (.t 4)) 8 43 false,p_ 45 (.slcS 39 (.t 44) (some (.c (.int .i64 1))) none) 8 43 false,p_ 46 (.callp 82 [.t 45,.c (.str ⟨#[51,50,46,115,116,111,114,101]⟩)]) 8 43 false,o_ 47 (.pick (.t 43) (.c (.bool true)) (.t 46)),o_ 48 (.mov (.t 47)),p_ 49 (.mov (.t 4)) 13 48 false,p_ 50 (.slcS 39 (.t 49) (some (.c (.int .i64 1))) none) 13 48 false,p_ 51 (.callp 82 [.t 50,.c (.str ⟨#[54,52,46,115,116,111,114,101]⟩)]) 13 48 false,o_ 52 (.pick (.t 48) (.c (.bool true)) (.t 51))] false [52]) (zqi)) (zqh)
def zqf:ACode:=.seq (.seq (.reg 0 [o_ 9 (.mov (.t 4))] false [4,9]) (zqj)) (zqg)
def zqe:ACode:=.seq (.seq (.reg 0 [o_ 7 (.mov (.t 4)),o_ 8 (.bin .eql .other 39 (.t 7) (.c (.str b156_)))] false [4,8]) (zrT)) (zqf)
def zqd:ACode:=.seq (.reg 0 [o_ 5 (.mov (.t 0)),o_ 6 (.callp 80 [.t 5]),o_ 4 (.asg (.t 6))] false [4]) (zqe)
def zqc:ACode:=.seq (.reg 0 [o_ 2 (.asg (.c (.int .i64 0))),o_ 3 (.asg (.c (.bool false)))] false [0]) (zqd)
def zop:AFun:={ nt:=53,res:=[.t 2,.t 3],code:=(zqc) }
def zqB:ACode:=.cond (.t 21) (.seq (.reg 0 [o_ 2 (.asg (.c (.int .i64 0))),o_ 3 (.asg (.c (.bool false))),o_ 4 (.asg (.c (.bool false)))] false [2,3,4]) (.ret)) (.skip)
def zqA:ACode:=.cond (.t 36) (.reg 0 [o_ 37 (.mov (.t 5)),o_ 38 (.mov (.t 5)),o_ 39 (.lenS 39 (.t 38)),o_ 40 (.bin .sub .other 2 (.t 39) (.c (.int .i64 2))),o_ 41 (.slcS 39 (.t 37) none (some (.t 40))),o_ 5 (.asg (.t 41))] false [5,8]) (.skip)
def zqz:ACode:=.cond (.t 53) (.seq (.reg 0 [o_ 55 (.mov (.t 8)),o_ 2 (.asg (.c (.int .i64 4))),o_ 3 (.asg (.t 55)),o_ 4 (.asg (.c (.bool true)))] false [2,3,4]) (.ret)) (.skip)
def zqy:ACode:=.cond (.t 50) (.seq (.reg 0 [o_ 52 (.mov (.t 8)),o_ 2 (.asg (.c (.int .i64 2))),o_ 3 (.asg (.t 52)),o_ 4 (.asg (.c (.bool true)))] false [2,3,4]) (.ret)) (.seq (.reg 0 [o_ 54 (.bin .eql .other 39 (.t 46) (.c (.str ⟨#[50]⟩))),o_ 53 (.asg (.t 54))] false [5,8,53]) (zqz))
def zqx:ACode:=.cond (.t 47) (.seq (.reg 0 [o_ 49 (.mov (.t 8)),o_ 2 (.asg (.c (.int .i64 1))),o_ 3 (.asg (.t 49)),o_ 4 (.asg (.c (.bool true)))] false [2,3,4]) (.ret)) (.seq (.reg 0 [o_ 51 (.bin .eql .other 39 (.t 46) (.c (.str ⟨#[54]⟩))),o_ 50 (.asg (.t 51))] false [5,8,46,50]) (zqy))
def zqw:ACode:=.block 0 (.seq (.reg 0 [o_ 48 (.bin .eql .other 39 (.t 46) (.c (.str b151_))),o_ 47 (.asg (.t 48))] false [5,8,46,47]) (zqx))
def zqv:ACode:=.cond (.t 58) (.seq (.reg 0 [o_ 59 (.mov (.t 8)),o_ 2 (.asg (.c (.int .i64 4))),o_ 3 (.asg (.t 59)),o_ 4 (.asg (.c (.bool true)))] false [2,3,4]) (.ret)) (.skip)
def zqu:ACode:=.seq (.reg 0 [o_ 60 (.mov (.t 8)),o_ 2 (.asg (.c (.int .i64 8))),o_ 3 (.asg (.t 60)),o_ 4 (.asg (.c (.bool true)))] false [2,3,4]) (.ret)
def zqt:ACode:=.seq (.seq (.reg 0 [o_ 56 (.mov (.t 5)),o_ 57 (.callp 81 [.t 56]),o_ 58 (.bin .eql .other 7 (.t 57) (.c (.int .u8 127)))] false [8,58]) (zqv)) (zqu)
def znU:ACode:=.seq (.seq (.reg 0 [o_ 42 (.mov (.t 5)),o_ 43 (.mov (.t 5)),o_ 44 (.lenS 39 (.t 43)),o_ 45 (.bin .sub .other 2 (.t 44) (.c (.int .i64 1))),o_ 46 (.slcS 39 (.t 42) (some (.t 45)) none)] false [5,8,46]) (zqw)) (zqt)
def znT:ACode:=.seq (.seq (.reg 0 [o_ 28 (.mov (.t 8)),o_ 29 (.mov (.t 28)),p_ 30 (.mov (.t 5)) 1 29 false,p_ 31 (.mov (.t 5)) 1 29 false,p_ 32 (.lenS 39 (.t 31)) 1 29 false,p_ 33 (.bin .sub .other 2 (.t 32) (.c (.int .i64 2))) 1 29 false,p_ 34 (.slcS 39 (.t 30) (some (.t 33)) none) 1 29 false,p_ 35 (.bin .eql .other 39 (.t 34) (.c (.str b140_))) 1 29 false,o_ 36 (.pick (.t 29) (.c (.bool true)) (.t 35))] false [5,8,36]) (zqA)) (znU)
def znS:ACode:=.seq (.reg 0 [o_ 22 (.mov (.t 5)),o_ 23 (.mov (.t 5)),o_ 24 (.lenS 39 (.t 23)),o_ 25 (.bin .sub .other 2 (.t 24) (.c (.int .i64 2))),o_ 26 (.slcS 39 (.t 22) (some (.t 25)) none),o_ 27 (.bin .eql .other 39 (.t 26) (.c (.str b141_))),o_ 8 (.asg (.t 27))] false [5,8]) (znT)
def znR:ACode:=.seq (.seq (.reg 0 [o_ 16 (.mov (.t 5)),o_ 17 (.bin .eql .other 39 (.t 16) (.c (.str b156_))),o_ 18 (.mov (.t 17)),p_ 19 (.mov (.t 6)) 2 18 false,p_ 20 (.bin .neq .other 2 (.t 19) (.c (.int .i64 4))) 2 18 false,o_ 21 (.pick (.t 18) (.c (.bool true)) (.t 20))] false [5,21]) (zqB)) (znS)
def znQ:ACode:=.seq (.reg 0 [o_ 12 (.mov (.t 0)),o_ 13 (.callp 62 [.t 12]),o_ 11 (.mov (.t 13)),o_ 14 (.ext (.t 11) 0),o_ 15 (.ext (.t 11) 1),o_ 6 (.asg (.t 14)),o_ 7 (.asg (.t 15))] false [5,6]) (znR)
def znP:ACode:=.seq (.reg 0 [o_ 9 (.mov (.t 0)),o_ 10 (.callp 80 [.t 9]),o_ 5 (.asg (.t 10))] false [0,5]) (znQ)
def znO:ACode:=.seq (.reg 0 [o_ 2 (.asg (.c (.int .i64 0))),o_ 3 (.asg (.c (.bool false))),o_ 4 (.asg (.c (.bool false)))] false [0]) (znP)
def zmL:AFun:={ nt:=61,res:=[.t 2,.t 3,.t 4],code:=(znO) }
def zdr:ACode:=.cond (.t 16) (.seq (.reg 0 [o_ 17 (.mov (.t 5)),o_ 4 (.asg (.t 17))] false [4]) (.ret)) (.skip)
def zdq:ACode:=.seq (.reg 0 [o_ 11 (.mov (.t 1)),o_ 12 (.mov (.t 0)),o_ 13 (.mov (.t 5)),o_ 14 (.iaddr 50 1 (.t 12) (.t 13)),o_ 15 (.load 51 false 1 (.t 14)),o_ 16 (.callv (.t 11) [.t 15])] false [0,1,5,7,8,16]) (zdr)
def zdp:ACode:=.reg 0 [o_ 18 (.bin .add .other 2 (.t 8) (.c (.int .i64 1))),o_ 8 (.mov (.t 18))] false [0,1,7,8]
def zdo:ACode:=.seq (.block 1 (.seq (.reg 0 [o_ 10 (.mov (.t 8)),o_ 5 (.asg (.t 10))] false [0,1,5,7,8]) (zdq))) (zdp)
def zdn:ACode:=.seq (.cond (.t 9) (.skip) (.exit 0)) (zdo)
def zdm:ACode:=.seq (.reg 0 [o_ 9 (.bin .lss .other 2 (.t 8) (.t 7))] false [0,1,7,8,9]) (zdn)
def zdl:ACode:=.seq (.seq (.reg 0 [o_ 6 (.mov (.t 0)),o_ 7 (.len 50 (.t 6)),o_ 8 (.mov (.c (.int .i64 0)))] false [0,1,7,8]) (.block 0 (.loop (zdm)))) (.seq (.reg 0 [o_ 4 (.asg (.c (.int .i64 (-1))))] false [4]) (.ret))
def zdk:ACode:=.seq (.reg 0 [o_ 4 (.asg (.c (.int .i64 0)))] false [0,1]) (zdl)
def zbd:AFun:={ nt:=19,res:=[.t 4],code:=(zdk) }
def zcV:ACode:=.cond (.t 16) (.seq (.reg 0 [o_ 17 (.mov (.t 5)),o_ 4 (.asg (.t 17))] false [4]) (.ret)) (.skip)
def zcU:ACode:=.seq (.reg 0 [o_ 11 (.mov (.t 1)),o_ 12 (.mov (.t 0)),o_ 13 (.mov (.t 5)),o_ 14 (.iaddr 20 10 (.t 12) (.t 13)),o_ 15 (.load 21 true 10 (.t 14)),o_ 16 (.callv (.t 11) [.t 15])] false [0,1,5,7,8,16]) (zcV)
def zcT:ACode:=.reg 0 [o_ 18 (.bin .add .other 2 (.t 8) (.c (.int .i64 1))),o_ 8 (.mov (.t 18))] false [0,1,7,8]
def zcS:ACode:=.seq (.block 1 (.seq (.reg 0 [o_ 10 (.mov (.t 8)),o_ 5 (.asg (.t 10))] false [0,1,5,7,8]) (zcU))) (zcT)
def zcR:ACode:=.seq (.cond (.t 9) (.skip) (.exit 0)) (zcS)
def zcQ:ACode:=.seq (.reg 0 [o_ 9 (.bin .lss .other 2 (.t 8) (.t 7))] false [0,1,7,8,9]) (zcR)
def zcP:ACode:=.seq (.seq (.reg 0 [o_ 6 (.mov (.t 0)),o_ 7 (.len 20 (.t 6)),o_ 8 (.mov (.c (.int .i64 0)))] false [0,1,7,8]) (.block 0 (.loop (zcQ)))) (.seq (.reg 0 [o_ 4 (.asg (.c (.int .i64 (-1))))] false [4]) (.ret))
def zcO:ACode:=.seq (.reg 0 [o_ 4 (.asg (.c (.int .i64 0)))] false [0,1]) (zcP)
def zaV:AFun:={ nt:=19,res:=[.t 4],code:=(zcO) }
def zie:ACode:=.reg 0 [o_ 26 (.mov (.t 2)),o_ 27 (.nilchk (.t 26)),o_ 28 (.faddr 54 1 1 (.t 27)),⟨none,.store 12 1 (.t 28) (.c (.bool true)),none⟩] false []
def zid:ACode:=.seq (.reg 0 [o_ 14 (.mov (.t 0)),o_ 15 (.mov (.t 0)),o_ 16 (.nilchk (.t 15)),o_ 17 (.faddr 46 3 11 (.t 16)),o_ 18 (.load 50 false 1 (.t 17)),o_ 19 (.mov (.t 2)),o_ 20 (.nilchk (.t 19)),o_ 21 (.faddr 54 0 0 (.t 20)),o_ 22 (.load 2 false 1 (.t 21)),o_ 23 (.slc 50 1 (.t 18) none (some (.t 22))),o_ 24 (.nilchk (.t 14)),o_ 25 (.faddr 46 3 11 (.t 24)),⟨none,.store 50 1 (.t 25) (.t 23),none⟩] true [2]) (zie)
def zic:ACode:=.seq (.reg 0 [o_ 3 (.mov (.t 0)),o_ 4 (.nilchk (.t 3)),o_ 5 (.faddr 46 4 12 (.t 4)),o_ 6 (.load 55 false 1 (.t 5)),o_ 7 (.mov (.t 0)),o_ 8 (.nilchk (.t 7)),o_ 9 (.faddr 46 4 12 (.t 8)),o_ 10 (.load 55 false 1 (.t 9)),o_ 11 (.len 55 (.t 10)),o_ 12 (.bin .sub .other 2 (.t 11) (.c (.int .i64 1))),o_ 13 (.iaddr 55 3 (.t 6) (.t 12)),o_ 2 (.asg (.t 13))] true [0,2]) (zid)
def zdh:AFun:={ nt:=29,res:=[],code:=(zic) }
def zis:ACode:=.reg 0 [o_ 103 (.mov (.t 0)),o_ 104 (.mov (.t 0)),o_ 105 (.mov (.t 0)),o_ 106 (.nilchk (.t 105)),o_ 107 (.faddr 46 4 12 (.t 106)),o_ 108 (.load 55 false 1 (.t 107)),o_ 109 (.mov (.t 0)),o_ 110 (.nilchk (.t 109)),o_ 111 (.faddr 46 4 12 (.t 110)),o_ 112 (.load 55 false 1 (.t 111)),o_ 113 (.len 55 (.t 112)),o_ 114 (.bin .sub .other 2 (.t 113) (.c (.int .i64 1))),o_ 115 (.slc 55 3 (.t 108) none (some (.t 114))),o_ 116 (.mov (.t 0)),o_ 117 (.nilchk (.t 116)),o_ 118 (.faddr 46 5 13 (.t 117)),o_ 119 (.load 50 false 1 (.t 118)),o_ 120 (.mov (.t 0)),o_ 121 (.nilchk (.t 120)),o_ 122 (.faddr 46 5 13 (.t 121)),o_ 123 (.load 50 false 1 (.t 122)),o_ 124 (.len 50 (.t 123)),o_ 125 (.bin .sub .other 2 (.t 124) (.c (.int .i64 1))),o_ 126 (.slc 50 1 (.t 119) none (some (.t 125))),o_ 127 (.nilchk (.t 103)),o_ 128 (.faddr 46 4 12 (.t 127)),⟨none,.store 100055 1 (.t 128) (.t 115),none⟩,o_ 129 (.nilchk (.t 104)),o_ 130 (.faddr 46 5 13 (.t 129)),⟨none,.store 50 1 (.t 130) (.t 126),none⟩] true []
def zir:ACode:=.seq (.reg 0 [o_ 88 (.mov (.t 0)),o_ 89 (.mov (.t 0)),o_ 90 (.nilchk (.t 89)),o_ 91 (.faddr 46 3 11 (.t 90)),o_ 92 (.load 50 false 1 (.t 91)),o_ 93 (.mov (.t 9)),o_ 94 (.mov (.t 0)),o_ 95 (.nilchk (.t 94)),o_ 96 (.faddr 46 3 11 (.t 95)),o_ 97 (.load 50 false 1 (.t 96)),o_ 98 (.len 50 (.t 97)),o_ 99 (.mm false 2 2 (.t 93) (.t 98)),o_ 100 (.slc 50 1 (.t 92) none (some (.t 99))),o_ 101 (.nilchk (.t 88)),o_ 102 (.faddr 46 3 11 (.t 101)),⟨none,.store 50 1 (.t 102) (.t 100),none⟩] true [0]) (zis)
def ziq:ACode:=.seq (.reg 0 [o_ 72 (.mov (.t 0)),o_ 73 (.mov (.t 0)),o_ 74 (.nilchk (.t 73)),o_ 75 (.faddr 46 7 15 (.t 74)),o_ 76 (.load 12 false 1 (.t 75)),o_ 77 (.mov (.t 76)),p_ 78 (.mov (.t 0)) 5 77 false,p_ 79 (.nilchk (.t 78)) 5 77 false,p_ 80 (.faddr 46 3 11 (.t 79)) 5 77 false,p_ 81 (.load 50 false 1 (.t 80)) 5 77 false,p_ 82 (.len 50 (.t 81)) 5 77 false,p_ 83 (.mov (.t 9)) 5 77 false,p_ 84 (.bin .neq .other 2 (.t 82) (.t 83)) 5 77 false,o_ 85 (.pick (.t 77) (.c (.bool true)) (.t 84)),o_ 86 (.nilchk (.t 72)),o_ 87 (.faddr 46 7 15 (.t 86)),⟨none,.store 12 1 (.t 87) (.t 85),none⟩] false [0,9]) (zir)
def zio:ACode:=.seq (.reg 0 [o_ 59 (.mov (.t 0)),o_ 60 (.nilchk (.t 59)),o_ 61 (.faddr 46 4 12 (.t 60)),o_ 62 (.load 55 false 1 (.t 61)),o_ 63 (.mov (.t 0)),o_ 64 (.nilchk (.t 63)),o_ 65 (.faddr 46 4 12 (.t 64)),o_ 66 (.load 55 false 1 (.t 65)),o_ 67 (.len 55 (.t 66)),o_ 68 (.bin .sub .other 2 (.t 67) (.c (.int .i64 1))),o_ 69 (.iaddr 55 3 (.t 62) (.t 68)),o_ 70 (.faddr 54 0 0 (.t 69)),o_ 71 (.load 2 false 1 (.t 70)),o_ 9 (.asg (.t 71))] true [0,9]) (ziq)
def zin:ACode:=.seq (.reg 0 [o_ 56 (.mov (.t 0)),o_ 57 (.mov (.t 2)),o_ 58 (.calls 40 [.t 56,.t 57])] false [0]) (zio)
def zim:ACode:=.seq (.reg 0 [o_ 53 (.mov (.t 0)),o_ 54 (.mov (.t 1)),o_ 55 (.calls 39 [.t 53,.t 54])] false [0,2]) (zin)
def zil:ACode:=.seq (.reg 2 [o_ 43 (.mov (.t 0)),o_ 44 (.mov (.t 0)),o_ 45 (.nilchk (.t 44)),o_ 46 (.faddr 46 5 13 (.t 45)),o_ 47 (.load 50 false 1 (.t 46)),o_ 48 (.mov (.t 3)),o_ 49 (.bslv 0 50 [.int .u8 0] 1 [(0,.t 48)]),o_ 50 (.app 1 50 1 1 (.t 47) (.t 49)),o_ 51 (.nilchk (.t 43)),o_ 52 (.faddr 46 5 13 (.t 51)),⟨none,.store 50 1 (.t 52) (.t 50),none⟩] false [0,1,2]) (zim)
def zik:ACode:=.seq (.reg 2 [o_ 22 (.mov (.t 0)),o_ 23 (.mov (.t 0)),o_ 24 (.nilchk (.t 23)),o_ 25 (.faddr 46 4 12 (.t 24)),o_ 26 (.load 55 false 1 (.t 25)),o_ 27 (.mov (.t 0)),o_ 28 (.nilchk (.t 27)),o_ 29 (.faddr 46 3 11 (.t 28)),o_ 30 (.load 50 false 1 (.t 29)),o_ 31 (.len 50 (.t 30)),o_ 32 (.faddr 54 1 1 (.t 8)),o_ 33 (.load 12 false 1 (.t 32)),o_ 34 (.mov (.t 33)),p_ 35 (.faddr 54 2 2 (.t 8)) 12 34 false,p_ 36 (.load 12 false 1 (.t 35)) 12 34 false,o_ 37 (.pick (.t 34) (.c (.bool true)) (.t 36)),o_ 38 (.build 54 [.int .i64 0,.bool false,.bool false] [(0,0,1,.t 31),(2,2,1,.t 37)]),o_ 39 (.bslv 0 55 [.int .i64 0,.bool false,.bool false] 1 [(0,.t 38)]),o_ 40 (.app 1 55 3 16 (.t 26) (.t 39)),o_ 41 (.nilchk (.t 22)),o_ 42 (.faddr 46 4 12 (.t 41)),⟨none,.store 55 1 (.t 42) (.t 40),none⟩] true [0,1,2,3]) (zil)
def zij:ACode:=.seq (.reg 1 [o_ 10 (.mov (.t 0)),o_ 11 (.nilchk (.t 10)),o_ 12 (.faddr 46 4 12 (.t 11)),o_ 13 (.load 55 false 1 (.t 12)),o_ 14 (.mov (.t 0)),o_ 15 (.nilchk (.t 14)),o_ 16 (.faddr 46 4 12 (.t 15)),o_ 17 (.load 55 false 1 (.t 16)),o_ 18 (.len 55 (.t 17)),o_ 19 (.bin .sub .other 2 (.t 18) (.c (.int .i64 1))),o_ 20 (.iaddr 55 3 (.t 13) (.t 19)),o_ 21 (.load 54 true 3 (.t 20)),o_ 8 (.alloc 0 54 [.int .i64 0,.bool false,.bool false]),⟨none,.store 54 3 (.t 8) (.t 21),none⟩] true [0,1,2,3,8]) (zik)
def zdj:AFun:={ nt:=131,res:=[],code:=(zij) }
def zjp:ACode:=.cond (.t 36) (.reg 0 [o_ 37 (.mov (.t 0)),o_ 38 (.mov (.t 0)),o_ 39 (.nilchk (.t 38)),o_ 40 (.faddr 46 6 14 (.t 39)),o_ 41 (.load 2 false 1 (.t 40)),o_ 42 (.mov (.t 0)),o_ 43 (.nilchk (.t 42)),o_ 44 (.faddr 46 3 11 (.t 43)),o_ 45 (.load 50 false 1 (.t 44)),o_ 46 (.len 50 (.t 45)),o_ 47 (.mm true 2 2 (.t 41) (.t 46)),o_ 48 (.nilchk (.t 37)),o_ 49 (.faddr 46 6 14 (.t 48)),⟨none,.store 2 1 (.t 49) (.t 47),none⟩] true []) (.skip)
def zjo:ACode:=.seq (.reg 0 [o_ 29 (.faddr 54 1 1 (.t 4)),o_ 30 (.load 12 false 1 (.t 29)),o_ 31 (.un .not (.t 30)),o_ 32 (.mov (.t 31)),p_ 33 (.faddr 54 2 2 (.t 4)) 3 32 true,p_ 34 (.load 12 false 1 (.t 33)) 3 32 true,p_ 35 (.un .not (.t 34)) 3 32 true,o_ 36 (.pick (.t 32) (.t 35) (.c (.bool false)))] false [0,36]) (zjp)
def zjn:ACode:=.seq (.reg 1 [o_ 17 (.mov (.t 0)),o_ 18 (.nilchk (.t 17)),o_ 19 (.faddr 46 4 12 (.t 18)),o_ 20 (.load 55 false 1 (.t 19)),o_ 21 (.mov (.t 0)),o_ 22 (.nilchk (.t 21)),o_ 23 (.faddr 46 4 12 (.t 22)),o_ 24 (.load 55 false 1 (.t 23)),o_ 25 (.len 55 (.t 24)),o_ 26 (.bin .sub .other 2 (.t 25) (.c (.int .i64 1))),o_ 27 (.iaddr 55 3 (.t 20) (.t 26)),o_ 28 (.load 54 true 3 (.t 27)),o_ 4 (.alloc 0 54 [.int .i64 0,.bool false,.bool false]),⟨none,.store 54 3 (.t 4) (.t 28),none⟩] true [0,4]) (zjo)
def zjm:ACode:=.seq (.reg 2 [o_ 7 (.mov (.t 0)),o_ 8 (.mov (.t 0)),o_ 9 (.nilchk (.t 8)),o_ 10 (.faddr 46 3 11 (.t 9)),o_ 11 (.load 50 false 1 (.t 10)),o_ 12 (.mov (.t 1)),o_ 13 (.bslv 0 50 [.int .u8 0] 1 [(0,.t 12)]),o_ 14 (.app 1 50 1 1 (.t 11) (.t 13)),o_ 15 (.nilchk (.t 7)),o_ 16 (.faddr 46 3 11 (.t 15)),⟨none,.store 50 1 (.t 16) (.t 14),none⟩] false [0]) (zjn)
def zjl:ACode:=.seq (.seq (.reg 0 [o_ 5 (.mov (.t 1)),o_ 6 (.bin .eql .other 51 (.t 5) (.c (.int .u8 0)))] false [0,1,6]) (.cond (.t 6) (.ret) (.skip))) (zjm)
def zel:AFun:={ nt:=50,res:=[],code:=(zjl) }
def zii:ACode:=.cond (.t 15) (.seq (.reg 0 [o_ 16 (.mov (.t 0)),o_ 17 (.nilchk (.t 16)),o_ 18 (.faddr 46 7 15 (.t 17)),⟨none,.store 12 1 (.t 18) (.c (.bool true)),none⟩] false []) (.seq (.reg 0 [o_ 4 (.asg (.c (.int .u8 0)))] false [4]) (.ret))) (.skip)
def zih:ACode:=.seq (.reg 0 [o_ 19 (.mov (.t 0)),o_ 20 (.nilchk (.t 19)),o_ 21 (.faddr 46 5 13 (.t 20)),o_ 22 (.load 50 false 1 (.t 21)),o_ 23 (.mov (.t 0)),o_ 24 (.nilchk (.t 23)),o_ 25 (.faddr 46 5 13 (.t 24)),o_ 26 (.load 50 false 1 (.t 25)),o_ 27 (.len 50 (.t 26)),o_ 28 (.bin .sub .other 27 (.t 27) (.c (.int .i64 1))),o_ 29 (.mov (.t 1)),o_ 30 (.bin .sub .other 27 (.t 28) (.t 29)),o_ 31 (.iaddr 50 1 (.t 22) (.t 30)),o_ 32 (.load 51 false 1 (.t 31)),o_ 4 (.asg (.t 32))] true [4]) (.ret)
def zig:ACode:=.seq (.seq (.reg 0 [o_ 5 (.mov (.t 1)),o_ 6 (.bin .lss .other 27 (.t 5) (.c (.int .i64 0))),o_ 7 (.mov (.t 6)),p_ 8 (.mov (.t 1)) 2 7 false,p_ 9 (.mov (.t 0)) 2 7 false,p_ 10 (.nilchk (.t 9)) 2 7 false,p_ 11 (.faddr 46 5 13 (.t 10)) 2 7 false,p_ 12 (.load 50 false 1 (.t 11)) 2 7 false,p_ 13 (.len 50 (.t 12)) 2 7 false,p_ 14 (.bin .geq .other 27 (.t 8) (.t 13)) 2 7 false,o_ 15 (.pick (.t 7) (.c (.bool true)) (.t 14))] false [0,1,15]) (zii)) (zih)
def zif:ACode:=.seq (.reg 0 [o_ 4 (.asg (.c (.int .u8 0)))] false [0,1]) (zig)
def zdi:AFun:={ nt:=33,res:=[.t 4],code:=(zif) }
def zhO:ACode:=.cond (.t 18) (.seq (.reg 0 [o_ 19 (.mov (.t 0)),o_ 20 (.nilchk (.t 19)),o_ 21 (.faddr 46 7 15 (.t 20)),⟨none,.store 12 1 (.t 21) (.c (.bool true)),none⟩] false []) (.ret)) (.skip)
def zhN:ACode:=.cond (.t 45) (.reg 0 [o_ 46 (.mov (.t 0)),o_ 47 (.nilchk (.t 46)),o_ 48 (.faddr 46 7 15 (.t 47)),⟨none,.store 12 1 (.t 48) (.c (.bool true)),none⟩] false [0,4,34,35,36]) (.skip)
def zhM:ACode:=.seq (.reg 0 [o_ 40 (.mov (.t 0)),o_ 41 (.mov (.t 6)),o_ 42 (.convi .i64 13 27 (.t 41)),o_ 43 (.calls 72 [.t 40,.t 42]),o_ 44 (.mov (.t 4)),o_ 45 (.bin .neq .other 51 (.t 43) (.t 44))] false [0,4,34,35,36,45]) (zhN)
def zhL:ACode:=.reg 0 [o_ 49 (.bin .add .other 2 (.t 36) (.c (.int .i64 1))),o_ 36 (.mov (.t 49))] false [0,4,34,35,36]
def zhK:ACode:=.seq (.block 1 (.seq (.reg 0 [o_ 38 (.iaddr 23 1 (.t 34) (.t 36)),o_ 39 (.load 13 false 1 (.t 38)),o_ 6 (.asg (.t 39))] false [0,4,6,34,35,36]) (zhM))) (zhL)
def zhJ:ACode:=.seq (.reg 0 [o_ 37 (.bin .lss .other 2 (.t 36) (.t 35))] false [0,4,34,35,36,37]) (.seq (.cond (.t 37) (.skip) (.exit 0)) (zhK))
def zhI:ACode:=.reg 0 [o_ 53 (.mov (.t 0)),o_ 54 (.calls 69 [.t 53])] false []
def zhH:ACode:=.seq (.reg 0 [o_ 50 (.mov (.t 0)),o_ 51 (.mov (.t 4)),o_ 52 (.calls 40 [.t 50,.t 51])] false [0]) (zhI)
def zhG:ACode:=.seq (.seq (.reg 0 [o_ 33 (.faddr 3 7 7 (.t 3)),o_ 34 (.load 23 false 1 (.t 33)),o_ 35 (.len 23 (.t 34)),o_ 36 (.mov (.c (.int .i64 0)))] false [0,4,34,35,36]) (.block 0 (.loop (zhJ)))) (zhH)
def zhc:ACode:=.seq (.reg 0 [o_ 22 (.mov (.t 0)),o_ 23 (.faddr 3 7 7 (.t 3)),o_ 24 (.load 23 false 1 (.t 23)),o_ 25 (.faddr 3 7 7 (.t 3)),o_ 26 (.load 23 false 1 (.t 25)),o_ 27 (.len 23 (.t 26)),o_ 28 (.bin .sub .other 2 (.t 27) (.c (.int .i64 1))),o_ 29 (.iaddr 23 1 (.t 24) (.t 28)),o_ 30 (.load 13 false 1 (.t 29)),o_ 31 (.convi .i64 13 27 (.t 30)),o_ 32 (.calls 72 [.t 22,.t 31]),o_ 4 (.asg (.t 32))] false [0,3,4]) (zhG)
def zhb:ACode:=.seq (.seq (.reg 0 [o_ 9 (.faddr 3 7 7 (.t 3)),o_ 10 (.load 23 false 1 (.t 9)),o_ 11 (.len 23 (.t 10)),o_ 12 (.bin .eql .other 2 (.t 11) (.c (.int .i64 0))),o_ 13 (.mov (.t 12)),p_ 14 (.faddr 3 7 7 (.t 3)) 4 13 false,p_ 15 (.load 23 false 1 (.t 14)) 4 13 false,p_ 16 (.len 23 (.t 15)) 4 13 false,p_ 17 (.bin .gtr .other 2 (.t 16) (.c (.int .i64 257))) 4 13 false,o_ 18 (.pick (.t 13) (.c (.bool true)) (.t 17))] false [0,3,18]) (zhO)) (zhc)
def zha:ACode:=.seq (.reg 0 [o_ 7 (.mov (.t 0)),o_ 8 (.calls 40 [.t 7,.c (.int .u8 127)])] false [0,3]) (zhb)
def zgZ:ACode:=.seq (.reg 1 [o_ 3 (.box 0 3 (.t 1))] false [0,3]) (zha)
def zde:AFun:={ nt:=55,res:=[],code:=(zgZ) }
def ziW:ACode:=.reg 0 [o_ 8 (.mov (.t 0)),o_ 9 (.faddr 43 1 1 (.t 3)),o_ 10 (.load 51 false 1 (.t 9)),o_ 11 (.calls 71 [.t 8,.t 10])] false []
def ziV:ACode:=.seq (.reg 0 [o_ 4 (.mov (.t 0)),o_ 5 (.faddr 43 0 0 (.t 3)),o_ 6 (.load 50 false 1 (.t 5)),o_ 7 (.calls 84 [.t 4,.t 6])] false [0,3]) (ziW)
def ziU:ACode:=.seq (.reg 1 [o_ 3 (.box 0 43 (.t 1))] false [0,3]) (ziV)
def zdF:AFun:={ nt:=12,res:=[],code:=(ziU) }
def zfG:ACode:=.seq (.reg 0 [o_ 20 (.build 43 [.nils,.int .u8 0] []),⟨none,.store 43 2 (.t 4) (.t 20),none⟩] false [4]) (.ret)
def zfF:ACode:=.cond (.t 16) (.seq (.reg 0 [o_ 17 (.mov (.t 0)),o_ 18 (.nilchk (.t 17)),o_ 19 (.faddr 46 7 15 (.t 18)),⟨none,.store 12 1 (.t 19) (.c (.bool true)),none⟩] false [4]) (zfG)) (.skip)
def zfE:ACode:=.seq (.reg 0 [o_ 21 (.mov (.t 0)),o_ 22 (.mov (.t 0)),o_ 23 (.nilchk (.t 22)),o_ 24 (.faddr 46 0 0 (.t 23)),o_ 25 (.faddr 1 1 1 (.t 24)),o_ 26 (.load 5 false 1 (.t 25)),o_ 27 (.mov (.t 1)),o_ 28 (.iaddr 5 3 (.t 26) (.t 27)),o_ 29 (.faddr 6 0 0 (.t 28)),o_ 30 (.load 13 false 1 (.t 29)),o_ 31 (.convi .i64 13 27 (.t 30)),o_ 32 (.calls 76 [.t 21,.t 31]),⟨none,.store 43 2 (.t 4) (.t 32),none⟩] false [4]) (.ret)
def zfD:ACode:=.seq (.seq (.reg 0 [o_ 5 (.mov (.t 1)),o_ 6 (.bin .lss .other 27 (.t 5) (.c (.int .i64 0))),o_ 7 (.mov (.t 6)),p_ 8 (.mov (.t 1)) 2 7 false,p_ 9 (.mov (.t 0)) 2 7 false,p_ 10 (.nilchk (.t 9)) 2 7 false,p_ 11 (.faddr 46 0 0 (.t 10)) 2 7 false,p_ 12 (.faddr 1 1 1 (.t 11)) 2 7 false,p_ 13 (.load 5 false 1 (.t 12)) 2 7 false,p_ 14 (.len 5 (.t 13)) 2 7 false,p_ 15 (.bin .geq .other 27 (.t 8) (.t 14)) 2 7 false,o_ 16 (.pick (.t 7) (.c (.bool true)) (.t 15))] false [0,1,4,16]) (zfF)) (zfE)
def zfC:ACode:=.seq (.reg 1 [o_ 4 (.alloc 0 43 [.nils,.int .u8 0])] false [0,1,4]) (zfD)
def zcx:AFun:={ nt:=33,res:=[.cell 4 43 true 2],code:=(zfC) }
def zjk:ACode:=.seq (.reg 0 [o_ 20 (.build 43 [.nils,.int .u8 0] []),⟨none,.store 43 2 (.t 4) (.t 20),none⟩] false [4]) (.ret)
def zjj:ACode:=.cond (.t 16) (.seq (.reg 0 [o_ 17 (.mov (.t 0)),o_ 18 (.nilchk (.t 17)),o_ 19 (.faddr 46 7 15 (.t 18)),⟨none,.store 12 1 (.t 19) (.c (.bool true)),none⟩] false [4]) (zjk)) (.skip)
def zji:ACode:=.seq (.reg 0 [o_ 21 (.mov (.t 0)),o_ 22 (.nilchk (.t 21)),o_ 23 (.faddr 46 0 0 (.t 22)),o_ 24 (.faddr 1 0 0 (.t 23)),o_ 25 (.load 17 false 1 (.t 24)),o_ 26 (.mov (.t 1)),o_ 27 (.iaddr 17 2 (.t 25) (.t 26)),o_ 28 (.load 43 true 2 (.t 27)),⟨none,.store 43 2 (.t 4) (.t 28),none⟩] false [4]) (.ret)
def zjh:ACode:=.seq (.seq (.reg 0 [o_ 5 (.mov (.t 1)),o_ 6 (.bin .lss .other 27 (.t 5) (.c (.int .i64 0))),o_ 7 (.mov (.t 6)),p_ 8 (.mov (.t 1)) 2 7 false,p_ 9 (.mov (.t 0)) 2 7 false,p_ 10 (.nilchk (.t 9)) 2 7 false,p_ 11 (.faddr 46 0 0 (.t 10)) 2 7 false,p_ 12 (.faddr 1 0 0 (.t 11)) 2 7 false,p_ 13 (.load 17 false 1 (.t 12)) 2 7 false,p_ 14 (.len 17 (.t 13)) 2 7 false,p_ 15 (.bin .geq .other 27 (.t 8) (.t 14)) 2 7 false,o_ 16 (.pick (.t 7) (.c (.bool true)) (.t 15))] false [0,1,4,16]) (zjj)) (zji)
def zjg:ACode:=.seq (.reg 1 [o_ 4 (.alloc 0 43 [.nils,.int .u8 0])] false [0,1,4]) (zjh)
def zek:AFun:={ nt:=29,res:=[.cell 4 43 true 2],code:=(zjg) }
def zib:ACode:=.cond (.t 15) (.seq (.reg 0 [o_ 16 (.mov (.t 0)),o_ 17 (.nilchk (.t 16)),o_ 18 (.faddr 46 7 15 (.t 17)),⟨none,.store 12 1 (.t 18) (.c (.bool true)),none⟩] false []) (.seq (.reg 0 [o_ 4 (.asg (.c (.int .u8 1)))] false [4]) (.ret))) (.skip)
def zia:ACode:=.seq (.reg 0 [o_ 19 (.mov (.t 0)),o_ 20 (.nilchk (.t 19)),o_ 21 (.faddr 46 2 10 (.t 20)),o_ 22 (.load 50 false 1 (.t 21)),o_ 23 (.mov (.t 1)),o_ 24 (.iaddr 50 1 (.t 22) (.t 23)),o_ 25 (.load 51 false 1 (.t 24)),o_ 4 (.asg (.t 25))] false [4]) (.ret)
def zhZ:ACode:=.seq (.seq (.reg 0 [o_ 5 (.mov (.t 1)),o_ 6 (.bin .lss .other 27 (.t 5) (.c (.int .i64 0))),o_ 7 (.mov (.t 6)),p_ 8 (.mov (.t 1)) 2 7 false,p_ 9 (.mov (.t 0)) 2 7 false,p_ 10 (.nilchk (.t 9)) 2 7 false,p_ 11 (.faddr 46 2 10 (.t 10)) 2 7 false,p_ 12 (.load 50 false 1 (.t 11)) 2 7 false,p_ 13 (.len 50 (.t 12)) 2 7 false,p_ 14 (.bin .geq .other 27 (.t 8) (.t 13)) 2 7 false,o_ 15 (.pick (.t 7) (.c (.bool true)) (.t 14))] false [0,1,15]) (zib)) (zia)
def zhY:ACode:=.seq (.reg 0 [o_ 4 (.asg (.c (.int .u8 0)))] false [0,1]) (zhZ)
def zdg:AFun:={ nt:=26,res:=[.t 4],code:=(zhY) }
def zht:ACode:=.seq (.reg 0 [o_ 20 (.build 21 [.int .u8 0,.bool false,.int .u8 0,.int .i64 0,.int .u32 0,.int .u32 0,.int .u8 0,.nils,.nils,.nils] [(0,0,1,.c (.int .u8 1)),(1,1,1,.c (.bool true))]),⟨none,.store 21 10 (.t 4) (.t 20),none⟩] false [4]) (.ret)
def zhs:ACode:=.cond (.t 16) (.seq (.reg 0 [o_ 17 (.mov (.t 0)),o_ 18 (.nilchk (.t 17)),o_ 19 (.faddr 46 7 15 (.t 18)),⟨none,.store 12 1 (.t 19) (.c (.bool true)),none⟩] false [4]) (zht)) (.skip)
def zhr:ACode:=.seq (.reg 0 [o_ 21 (.mov (.t 0)),o_ 22 (.nilchk (.t 21)),o_ 23 (.faddr 46 0 0 (.t 22)),o_ 24 (.faddr 1 4 4 (.t 23)),o_ 25 (.load 20 false 1 (.t 24)),o_ 26 (.mov (.t 1)),o_ 27 (.iaddr 20 10 (.t 25) (.t 26)),o_ 28 (.load 21 true 10 (.t 27)),⟨none,.store 21 10 (.t 4) (.t 28),none⟩] false [4]) (.ret)
def zhq:ACode:=.seq (.seq (.reg 0 [o_ 5 (.mov (.t 1)),o_ 6 (.bin .lss .other 27 (.t 5) (.c (.int .i64 0))),o_ 7 (.mov (.t 6)),p_ 8 (.mov (.t 1)) 2 7 false,p_ 9 (.mov (.t 0)) 2 7 false,p_ 10 (.nilchk (.t 9)) 2 7 false,p_ 11 (.faddr 46 0 0 (.t 10)) 2 7 false,p_ 12 (.faddr 1 4 4 (.t 11)) 2 7 false,p_ 13 (.load 20 false 1 (.t 12)) 2 7 false,p_ 14 (.len 20 (.t 13)) 2 7 false,p_ 15 (.bin .geq .other 27 (.t 8) (.t 14)) 2 7 false,o_ 16 (.pick (.t 7) (.c (.bool true)) (.t 15))] false [0,1,4,16]) (zhs)) (zhr)
def zhp:ACode:=.seq (.reg 1 [o_ 4 (.alloc 0 21 [.int .u8 0,.bool false,.int .u8 0,.int .i64 0,.int .u32 0,.int .u32 0,.int .u8 0,.nils,.nils,.nils])] false [0,1,4]) (zhq)
def zda:AFun:={ nt:=29,res:=[.cell 4 21 true 10],code:=(zhp) }
def zhX:ACode:=.cond (.t 18) (.seq (.reg 0 [o_ 19 (.mov (.t 0)),o_ 20 (.nilchk (.t 19)),o_ 21 (.faddr 46 7 15 (.t 20)),⟨none,.store 12 1 (.t 21) (.c (.bool true)),none⟩] false []) (.ret)) (.skip)
def zhW:ACode:=.cond (.t 30) (.reg 0 [o_ 31 (.mov (.t 0)),o_ 32 (.mov (.t 0)),o_ 33 (.nilchk (.t 32)),o_ 34 (.faddr 46 7 15 (.t 33)),o_ 35 (.load 12 false 1 (.t 34)),o_ 36 (.mov (.t 35)),p_ 37 (.faddr 3 2 2 (.t 3)) 5 36 false,p_ 38 (.load 13 false 1 (.t 37)) 5 36 false,p_ 39 (.bin .gtr .other 13 (.t 38) (.c (.int .u32 3))) 5 36 false,o_ 40 (.pick (.t 36) (.c (.bool true)) (.t 39)),o_ 41 (.mov (.t 40)),p_ 42 (.faddr 3 2 2 (.t 3)) 10 41 false,p_ 43 (.load 13 false 1 (.t 42)) 10 41 false,p_ 44 (.bin .shl .other 2 (.c (.int .i64 1)) (.t 43)) 10 41 false,p_ 45 (.mov (.t 6)) 10 41 false,p_ 46 (.bin .gtr .other 2 (.t 44) (.t 45)) 10 41 false,o_ 47 (.pick (.t 41) (.c (.bool true)) (.t 46)),o_ 48 (.nilchk (.t 31)),o_ 49 (.faddr 46 7 15 (.t 48)),⟨none,.store 12 1 (.t 49) (.t 47),none⟩] false [0,3,4]) (.skip)
def zhV:ACode:=.seq (.reg 0 [o_ 29 (.mov (.t 8)),o_ 30 (.bin .eql .iface 8 (.t 29) (.c .nili))] false [0,3,4,6,30]) (zhW)
def zhU:ACode:=.cond (.t 88) (.reg 0 [o_ 89 (.mov (.t 0)),o_ 90 (.nilchk (.t 89)),o_ 91 (.faddr 46 7 15 (.t 90)),⟨none,.store 12 1 (.t 91) (.c (.bool true)),none⟩] false [0,4]) (.skip)
def zhT:ACode:=.reg 0 [o_ 92 (.mov (.t 0)),o_ 93 (.load 43 true 2 (.t 4)),o_ 94 (.calls 75 [.t 92,.t 93])] false []
def zhS:ACode:=.seq (.seq (.reg 0 [o_ 62 (.mov (.t 5)),o_ 63 (.bin .neq .iface 8 (.t 62) (.c .nili)),o_ 64 (.mov (.t 63)),p_ 65 (.mov (.t 10)) 2 64 false,p_ 66 (.mov (.t 65)) 2 64 false,p_ 67 (.mov (.t 0)) 4 66 true,p_ 68 (.nilchk (.t 67)) 4 66 true,p_ 69 (.faddr 46 0 0 (.t 68)) 4 66 true,p_ 70 (.faddr 1 3 3 (.t 69)) 4 66 true,p_ 71 (.load 18 false 1 (.t 70)) 4 66 true,p_ 72 (.len 18 (.t 71)) 4 66 true,p_ 73 (.bin .eql .other 2 (.t 72) (.c (.int .i64 0))) 4 66 true,p_ 74 (.pick (.t 66) (.t 73) (.c (.bool false))) 2 64 false,o_ 75 (.pick (.t 64) (.c (.bool true)) (.t 74)),o_ 76 (.mov (.t 75)),p_ 77 (.mov (.t 9)) 14 76 false,p_ 78 (.bin .eql .other 2 (.t 77) (.c (.int .i64 1))) 14 76 false,p_ 79 (.mov (.t 78)) 14 76 false,p_ 80 (.faddr 3 1 1 (.t 3)) 17 79 true,p_ 81 (.load 27 false 1 (.t 80)) 17 79 true,p_ 82 (.faddr 3 1 1 (.t 3)) 17 79 true,p_ 83 (.load 27 false 1 (.t 82)) 17 79 true,p_ 84 (.convi .i32 27 58 (.t 83)) 17 79 true,p_ 85 (.convi .i64 58 27 (.t 84)) 17 79 true,p_ 86 (.bin .neq .other 27 (.t 81) (.t 85)) 17 79 true,p_ 87 (.pick (.t 79) (.t 86) (.c (.bool false))) 14 76 false,o_ 88 (.pick (.t 76) (.c (.bool true)) (.t 87))] false [0,4,88]) (zhU)) (zhT)
def zhR:ACode:=.seq (.reg 0 [o_ 56 (.mov (.t 9)),o_ 57 (.bin .eql .other 2 (.t 56) (.c (.int .i64 4))),o_ 58 (.mov (.t 57)),p_ 59 (.mov (.t 9)) 2 58 false,p_ 60 (.bin .eql .other 2 (.t 59) (.c (.int .i64 5))) 2 58 false,o_ 61 (.pick (.t 58) (.c (.bool true)) (.t 60)),o_ 10 (.asg (.t 61))] false [0,3,4,5,9,10]) (zhS)
def zhQ:ACode:=.seq (.reg 0 [o_ 51 (.faddr 3 0 0 (.t 3)),o_ 52 (.load 7 false 1 (.t 51)),o_ 53 (.callp 87 [.t 52]),o_ 50 (.mov (.t 53)),o_ 54 (.ext (.t 50) 0),o_ 55 (.ext (.t 50) 1),o_ 9 (.asg (.t 54)),o_ 5 (.asg (.t 55))] false [0,3,4,5,9]) (zhR)
def zhP:ACode:=.seq (.seq (.reg 0 [o_ 23 (.faddr 3 0 0 (.t 3)),o_ 24 (.load 7 false 1 (.t 23)),o_ 25 (.callp 86 [.t 24]),o_ 22 (.mov (.t 25)),o_ 26 (.ext (.t 22) 0),o_ 27 (.ext (.t 22) 1),o_ 28 (.ext (.t 22) 2),o_ 6 (.asg (.t 26)),o_ 7 (.asg (.t 27)),o_ 8 (.asg (.t 28))] false [0,3,4,6,8]) (zhV)) (zhQ)
def zho:ACode:=.seq (.seq (.reg 0 [o_ 17 (.mov (.t 5)),o_ 18 (.bin .neq .iface 8 (.t 17) (.c .nili))] false [0,3,4,18]) (zhX)) (zhP)
def zhn:ACode:=.seq (.reg 1 [o_ 12 (.faddr 3 0 0 (.t 3)),o_ 13 (.load 7 false 1 (.t 12)),o_ 14 (.callp 85 [.t 13]),o_ 11 (.mov (.t 14)),o_ 15 (.ext (.t 11) 0),o_ 16 (.ext (.t 11) 1),o_ 4 (.alloc 0 43 [.nils,.int .u8 0]),⟨none,.store 43 2 (.t 4) (.t 15),none⟩,o_ 5 (.asg (.t 16))] false [0,3,4,5]) (zho)
def zhm:ACode:=.seq (.reg 1 [o_ 3 (.box 0 3 (.t 1))] false [0,3]) (zhn)
def zdf:AFun:={ nt:=95,res:=[],code:=(zhm) }
def zrH:ACode:=.cond (.t 91) (.seq (.reg 0 [o_ 2 (.asg (.c (.str b3_)))] false [2]) (.ret)) (.skip)
def zrG:ACode:=.cond (.t 88) (.seq (.reg 0 [o_ 2 (.asg (.c (.str b4_)))] false [2]) (.ret)) (.seq (.reg 0 [o_ 92 (.mov (.t 8)),o_ 93 (.bin .eql .other 2 (.t 92) (.c (.int .i64 173))),o_ 91 (.asg (.t 93))] false [0,91]) (zrH))
def zrF:ACode:=.cond (.t 85) (.seq (.reg 0 [o_ 2 (.asg (.c (.str b14_)))] false [2]) (.ret)) (.seq (.reg 0 [o_ 89 (.mov (.t 8)),o_ 90 (.bin .eql .other 2 (.t 89) (.c (.int .i64 172))),o_ 88 (.asg (.t 90))] false [0,8,88]) (zrG))
def zrE:ACode:=.cond (.t 73) (.seq (.reg 0 [o_ 80 (.mov (.t 7)),o_ 81 (.mov (.t 8)),o_ 82 (.bin .sub .other 2 (.t 81) (.c (.int .i64 58))),o_ 83 (.iaddr 61 1 (.t 80) (.t 82)),o_ 84 (.load 39 false 1 (.t 83)),o_ 2 (.asg (.t 84))] false [2]) (.ret)) (.seq (.reg 0 [o_ 86 (.mov (.t 8)),o_ 87 (.bin .eql .other 2 (.t 86) (.c (.int .i64 167))),o_ 85 (.asg (.t 87))] false [0,8,85]) (zrF))
def zrD:ACode:=.cond (.t 61) (.seq (.reg 0 [o_ 68 (.mov (.t 6)),o_ 69 (.mov (.t 8)),o_ 70 (.bin .sub .other 2 (.t 69) (.c (.int .i64 44))),o_ 71 (.iaddr 61 1 (.t 68) (.t 70)),o_ 72 (.load 39 false 1 (.t 71)),o_ 2 (.asg (.t 72))] false [2]) (.ret)) (.seq (.reg 0 [o_ 74 (.mov (.t 8)),o_ 75 (.bin .geq .other 2 (.t 74) (.c (.int .i64 58))),o_ 76 (.mov (.t 75)),p_ 77 (.mov (.t 8)) 2 76 true,p_ 78 (.bin .leq .other 2 (.t 77) (.c (.int .i64 66))) 2 76 true,o_ 79 (.pick (.t 76) (.t 78) (.c (.bool false))),o_ 73 (.asg (.t 79))] false [0,7,8,73]) (zrE))
def zrC:ACode:=.cond (.t 58) (.seq (.reg 0 [o_ 2 (.asg (.c (.str b39_)))] false [2]) (.ret)) (.seq (.reg 0 [o_ 62 (.mov (.t 8)),o_ 63 (.bin .geq .other 2 (.t 62) (.c (.int .i64 44))),o_ 64 (.mov (.t 63)),p_ 65 (.mov (.t 8)) 2 64 true,p_ 66 (.bin .leq .other 2 (.t 65) (.c (.int .i64 55))) 2 64 true,o_ 67 (.pick (.t 64) (.t 66) (.c (.bool false))),o_ 61 (.asg (.t 67))] false [0,6,7,8,61]) (zrD))
def zrB:ACode:=.cond (.t 55) (.seq (.reg 0 [o_ 2 (.asg (.c (.str b40_)))] false [2]) (.ret)) (.seq (.reg 0 [o_ 59 (.mov (.t 8)),o_ 60 (.bin .eql .other 2 (.t 59) (.c (.int .i64 41))),o_ 58 (.asg (.t 60))] false [0,6,7,8,58]) (zrC))
def zrA:ACode:=.cond (.t 43) (.seq (.reg 0 [o_ 50 (.mov (.t 5)),o_ 51 (.mov (.t 8)),o_ 52 (.bin .sub .other 2 (.t 51) (.c (.int .i64 32))),o_ 53 (.iaddr 61 1 (.t 50) (.t 52)),o_ 54 (.load 39 false 1 (.t 53)),o_ 2 (.asg (.t 54))] false [2]) (.ret)) (.seq (.reg 0 [o_ 56 (.mov (.t 8)),o_ 57 (.bin .eql .other 2 (.t 56) (.c (.int .i64 40))),o_ 55 (.asg (.t 57))] false [0,6,7,8,55]) (zrB))
def zrz:ACode:=.cond (.t 40) (.seq (.reg 0 [o_ 2 (.asg (.c (.str b45_)))] false [2]) (.ret)) (.seq (.reg 0 [o_ 44 (.mov (.t 8)),o_ 45 (.bin .geq .other 2 (.t 44) (.c (.int .i64 32))),o_ 46 (.mov (.t 45)),p_ 47 (.mov (.t 8)) 2 46 true,p_ 48 (.bin .leq .other 2 (.t 47) (.c (.int .i64 36))) 2 46 true,o_ 49 (.pick (.t 46) (.t 48) (.c (.bool false))),o_ 43 (.asg (.t 49))] false [0,5,6,7,8,43]) (zrA))
def zqb:ACode:=.cond (.t 37) (.seq (.reg 0 [o_ 2 (.asg (.c (.str b65_)))] false [2]) (.ret)) (.seq (.reg 0 [o_ 41 (.mov (.t 8)),o_ 42 (.bin .eql .other 2 (.t 41) (.c (.int .i64 27))),o_ 40 (.asg (.t 42))] false [0,5,6,7,8,40]) (zrz))
def zqa:ACode:=.cond (.t 25) (.seq (.reg 0 [o_ 32 (.mov (.t 4)),o_ 33 (.mov (.t 8)),o_ 34 (.bin .sub .other 2 (.t 33) (.c (.int .i64 12))),o_ 35 (.iaddr 61 1 (.t 32) (.t 34)),o_ 36 (.load 39 false 1 (.t 35)),o_ 2 (.asg (.t 36))] false [2]) (.ret)) (.seq (.reg 0 [o_ 38 (.mov (.t 8)),o_ 39 (.bin .eql .other 2 (.t 38) (.c (.int .i64 26))),o_ 37 (.asg (.t 39))] false [0,5,6,7,8,37]) (zqb))
def zpZ:ACode:=.cond (.t 18) (.seq (.reg 0 [o_ 21 (.mov (.t 3)),o_ 22 (.mov (.t 8)),o_ 23 (.iaddr 61 1 (.t 21) (.t 22)),o_ 24 (.load 39 false 1 (.t 23)),o_ 2 (.asg (.t 24))] false [2]) (.ret)) (.seq (.reg 0 [o_ 26 (.mov (.t 8)),o_ 27 (.bin .geq .other 2 (.t 26) (.c (.int .i64 12))),o_ 28 (.mov (.t 27)),p_ 29 (.mov (.t 8)) 2 28 true,p_ 30 (.bin .leq .other 2 (.t 29) (.c (.int .i64 17))) 2 28 true,o_ 31 (.pick (.t 28) (.t 30) (.c (.bool false))),o_ 25 (.asg (.t 31))] false [0,4,5,6,7,8,25]) (zqa))
def zpY:ACode:=.cond (.t 100) (.seq (.reg 0 [o_ 2 (.asg (.c (.str b156_)))] false [2]) (.ret)) (.skip)
def zpX:ACode:=.cond (.t 102) (.seq (.reg 0 [o_ 103 (.mov (.t 9)),o_ 104 (.bin .add .other 39 (.c (.str ⟨#[105,51,50,46]⟩)) (.t 103)),o_ 2 (.asg (.t 104))] false [2]) (.ret)) (.skip)
def zpW:ACode:=.seq (.reg 0 [o_ 105 (.mov (.t 9)),o_ 106 (.bin .add .other 39 (.c (.str b47_)) (.t 105)),o_ 2 (.asg (.t 106))] false [2]) (.ret)
def zpV:ACode:=.seq (.seq (.reg 0 [o_ 101 (.mov (.t 10)),o_ 102 (.bin .eql .other 2 (.t 101) (.c (.int .i64 32)))] false [9,102]) (zpX)) (zpW)
def zpU:ACode:=.seq (.seq (.reg 0 [o_ 99 (.mov (.t 9)),o_ 100 (.bin .eql .other 39 (.t 99) (.c (.str b156_)))] false [9,10,100]) (zpY)) (zpV)
def zpT:ACode:=.seq (.reg 0 [o_ 95 (.mov (.t 0)),o_ 96 (.callp 83 [.t 95]),o_ 94 (.mov (.t 96)),o_ 97 (.ext (.t 94) 0),o_ 98 (.ext (.t 94) 1),o_ 9 (.asg (.t 97)),o_ 10 (.asg (.t 98))] false [9,10]) (zpU)
def zpS:ACode:=.seq (.block 0 (.seq (.reg 0 [o_ 19 (.mov (.t 8)),o_ 20 (.bin .leq .other 2 (.t 19) (.c (.int .i64 4))),o_ 18 (.asg (.t 20))] false [0,3,4,5,6,7,8,18]) (zpZ))) (zpT)
def zpR:ACode:=.seq (.reg 0 [o_ 16 (.mov (.t 0)),o_ 17 (.convi .i64 7 2 (.t 16)),o_ 8 (.asg (.t 17))] false [0,3,4,5,6,7,8]) (zpS)
def zpQ:ACode:=.seq (.reg 1 [o_ 15 (.bslice 0 61 [.str b156_] 9 [(0,.c (.str b29_)),(1,.c (.str b22_)),(2,.c (.str b30_)),(3,.c (.str b23_)),(4,.c (.str b24_)),(5,.c (.str b1_)),(6,.c (.str b0_)),(7,.c (.str b12_)),(8,.c (.str b11_))]),o_ 7 (.asg (.t 15))] false [0,3,4,5,6,7]) (zpR)
def zpP:ACode:=.seq (.reg 1 [o_ 14 (.bslice 0 61 [.str b156_] 12 [(0,.c (.str b25_)),(1,.c (.str b26_)),(2,.c (.str b15_)),(3,.c (.str b16_)),(4,.c (.str b27_)),(5,.c (.str b28_)),(6,.c (.str b17_)),(7,.c (.str b18_)),(8,.c (.str b19_)),(9,.c (.str b20_)),(10,.c (.str b34_)),(11,.c (.str b35_))]),o_ 6 (.asg (.t 14))] false [0,3,4,5,6]) (zpQ)
def zpO:ACode:=.seq (.reg 1 [o_ 13 (.bslice 0 61 [.str b156_] 5 [(0,.c (.str b10_)),(1,.c (.str b9_)),(2,.c (.str b8_)),(3,.c (.str b6_)),(4,.c (.str b5_))]),o_ 5 (.asg (.t 13))] false [0,3,4,5]) (zpP)
def zpN:ACode:=.seq (.reg 1 [o_ 12 (.bslice 0 61 [.str b156_] 6 [(0,.c (.str b132_)),(1,.c (.str b41_)),(2,.c (.str b13_)),(3,.c (.str b43_)),(4,.c (.str b46_)),(5,.c (.str b2_))]),o_ 4 (.asg (.t 12))] false [0,3,4]) (zpO)
def zpM:ACode:=.seq (.reg 1 [o_ 11 (.bslice 0 61 [.str b156_] 5 [(0,.c (.str b21_)),(1,.c (.str b118_)),(2,.c (.str b42_)),(3,.c (.str b44_)),(4,.c (.str b125_))]),o_ 3 (.asg (.t 11))] false [0,3]) (zpN)
def zpL:ACode:=.seq (.reg 0 [o_ 2 (.asg (.c (.str b156_)))] false [0]) (zpM)
def zon:AFun:={ nt:=107,res:=[.t 2],code:=(zpL) }
def zrK:ACode:=.cond (.t 4) (.seq (.reg 0 [o_ 2 (.asg (.c (.int .u8 126)))] false [2]) (.ret)) (.skip)
def zrJ:ACode:=.seq (.seq (.reg 0 [o_ 3 (.mov (.t 0)),o_ 4 (.callp 82 [.t 3,.c (.str b47_)])] false [4]) (zrK)) (.seq (.reg 0 [o_ 2 (.asg (.c (.int .u8 127)))] false [2]) (.ret))
def zrI:ACode:=.seq (.reg 0 [o_ 2 (.asg (.c (.int .u8 0)))] false [0]) (zrJ)
def zoo:AFun:={ nt:=5,res:=[.t 2],code:=(zrI) }
def zsB:ACode:=.seq (.reg 0 [o_ 5 (.mov (.t 0)),o_ 6 (.lenS 39 (.t 5)),o_ 7 (.mov (.t 1)),o_ 8 (.lenS 39 (.t 7)),o_ 9 (.bin .geq .other 2 (.t 6) (.t 8)),o_ 10 (.mov (.t 9)),p_ 11 (.mov (.t 0)) 5 10 true,p_ 12 (.mov (.t 1)) 5 10 true,p_ 13 (.lenS 39 (.t 12)) 5 10 true,p_ 14 (.slcS 39 (.t 11) none (some (.t 13))) 5 10 true,p_ 15 (.mov (.t 1)) 5 10 true,p_ 16 (.bin .eql .other 39 (.t 14) (.t 15)) 5 10 true,o_ 17 (.pick (.t 10) (.t 16) (.c (.bool false))),o_ 4 (.asg (.t 17))] false [4]) (.ret)
def zsA:ACode:=.seq (.reg 0 [o_ 4 (.asg (.c (.bool false)))] false [0,1]) (zsB)
def zrp:AFun:={ nt:=18,res:=[.t 4],code:=(zsA) }
def zsc:ACode:=.cond (.t 91) (.seq (.reg 0 [o_ 2 (.asg (.c (.str b37_))),o_ 3 (.asg (.c (.int .i64 32)))] false [2,3]) (.ret)) (.skip)
def zsb:ACode:=.cond (.t 88) (.seq (.reg 0 [o_ 2 (.asg (.c (.str b38_))),o_ 3 (.asg (.c (.int .i64 32)))] false [2,3]) (.ret)) (.seq (.reg 0 [o_ 92 (.mov (.t 7)),o_ 93 (.bin .eql .other 2 (.t 92) (.c (.int .i64 173))),o_ 91 (.asg (.t 93))] false [91]) (zsc))
def zsa:ACode:=.cond (.t 85) (.seq (.reg 0 [o_ 2 (.asg (.c (.str b80_))),o_ 3 (.asg (.c (.int .i64 64)))] false [2,3]) (.ret)) (.seq (.reg 0 [o_ 89 (.mov (.t 7)),o_ 90 (.bin .eql .other 2 (.t 89) (.c (.int .i64 172))),o_ 88 (.asg (.t 90))] false [7,88]) (zsb))
def zrZ:ACode:=.cond (.t 73) (.seq (.reg 0 [o_ 80 (.mov (.t 5)),o_ 81 (.mov (.t 7)),o_ 82 (.bin .sub .other 2 (.t 81) (.c (.int .i64 124))),o_ 83 (.iaddr 61 1 (.t 80) (.t 82)),o_ 84 (.load 39 false 1 (.t 83)),o_ 2 (.asg (.t 84)),o_ 3 (.asg (.c (.int .i64 64)))] false [2,3]) (.ret)) (.seq (.reg 0 [o_ 86 (.mov (.t 7)),o_ 87 (.bin .eql .other 2 (.t 86) (.c (.int .i64 167))),o_ 85 (.asg (.t 87))] false [7,85]) (zsa))
def zrY:ACode:=.cond (.t 61) (.seq (.reg 0 [o_ 68 (.mov (.t 4)),o_ 69 (.mov (.t 7)),o_ 70 (.bin .sub .other 2 (.t 69) (.c (.int .i64 121))),o_ 71 (.iaddr 61 1 (.t 68) (.t 70)),o_ 72 (.load 39 false 1 (.t 71)),o_ 2 (.asg (.t 72)),o_ 3 (.asg (.c (.int .i64 64)))] false [2,3]) (.ret)) (.seq (.reg 0 [o_ 74 (.mov (.t 7)),o_ 75 (.bin .geq .other 2 (.t 74) (.c (.int .i64 124))),o_ 76 (.mov (.t 75)),p_ 77 (.mov (.t 7)) 2 76 true,p_ 78 (.bin .leq .other 2 (.t 77) (.c (.int .i64 138))) 2 76 true,o_ 79 (.pick (.t 76) (.t 78) (.c (.bool false))),o_ 73 (.asg (.t 79))] false [5,7,73]) (zrZ))
def zrX:ACode:=.cond (.t 49) (.seq (.reg 0 [o_ 56 (.mov (.t 5)),o_ 57 (.mov (.t 7)),o_ 58 (.bin .sub .other 2 (.t 57) (.c (.int .i64 106))),o_ 59 (.iaddr 61 1 (.t 56) (.t 58)),o_ 60 (.load 39 false 1 (.t 59)),o_ 2 (.asg (.t 60)),o_ 3 (.asg (.c (.int .i64 32)))] false [2,3]) (.ret)) (.seq (.reg 0 [o_ 62 (.mov (.t 7)),o_ 63 (.bin .geq .other 2 (.t 62) (.c (.int .i64 121))),o_ 64 (.mov (.t 63)),p_ 65 (.mov (.t 7)) 2 64 true,p_ 66 (.bin .leq .other 2 (.t 65) (.c (.int .i64 123))) 2 64 true,o_ 67 (.pick (.t 64) (.t 66) (.c (.bool false))),o_ 61 (.asg (.t 67))] false [4,5,7,61]) (zrY))
def zrW:ACode:=.cond (.t 37) (.seq (.reg 0 [o_ 44 (.mov (.t 4)),o_ 45 (.mov (.t 7)),o_ 46 (.bin .sub .other 2 (.t 45) (.c (.int .i64 103))),o_ 47 (.iaddr 61 1 (.t 44) (.t 46)),o_ 48 (.load 39 false 1 (.t 47)),o_ 2 (.asg (.t 48)),o_ 3 (.asg (.c (.int .i64 32)))] false [2,3]) (.ret)) (.seq (.reg 0 [o_ 50 (.mov (.t 7)),o_ 51 (.bin .geq .other 2 (.t 50) (.c (.int .i64 106))),o_ 52 (.mov (.t 51)),p_ 53 (.mov (.t 7)) 2 52 true,p_ 54 (.bin .leq .other 2 (.t 53) (.c (.int .i64 120))) 2 52 true,o_ 55 (.pick (.t 52) (.t 54) (.c (.bool false))),o_ 49 (.asg (.t 55))] false [4,5,7,49]) (zrX))
def zrV:ACode:=.cond (.t 25) (.seq (.reg 0 [o_ 32 (.mov (.t 6)),o_ 33 (.mov (.t 7)),o_ 34 (.bin .sub .other 2 (.t 33) (.c (.int .i64 80))),o_ 35 (.iaddr 61 1 (.t 32) (.t 34)),o_ 36 (.load 39 false 1 (.t 35)),o_ 2 (.asg (.t 36)),o_ 3 (.asg (.c (.int .i64 64)))] false [2,3]) (.ret)) (.seq (.reg 0 [o_ 38 (.mov (.t 7)),o_ 39 (.bin .geq .other 2 (.t 38) (.c (.int .i64 103))),o_ 40 (.mov (.t 39)),p_ 41 (.mov (.t 7)) 2 40 true,p_ 42 (.bin .leq .other 2 (.t 41) (.c (.int .i64 105))) 2 40 true,o_ 43 (.pick (.t 40) (.t 42) (.c (.bool false))),o_ 37 (.asg (.t 43))] false [4,5,7,37]) (zrW))
def zrU:ACode:=.cond (.t 13) (.seq (.reg 0 [o_ 20 (.mov (.t 6)),o_ 21 (.mov (.t 7)),o_ 22 (.bin .sub .other 2 (.t 21) (.c (.int .i64 69))),o_ 23 (.iaddr 61 1 (.t 20) (.t 22)),o_ 24 (.load 39 false 1 (.t 23)),o_ 2 (.asg (.t 24)),o_ 3 (.asg (.c (.int .i64 32)))] false [2,3]) (.ret)) (.seq (.reg 0 [o_ 26 (.mov (.t 7)),o_ 27 (.bin .geq .other 2 (.t 26) (.c (.int .i64 80))),o_ 28 (.mov (.t 27)),p_ 29 (.mov (.t 7)) 2 28 true,p_ 30 (.bin .leq .other 2 (.t 29) (.c (.int .i64 90))) 2 28 true,o_ 31 (.pick (.t 28) (.t 30) (.c (.bool false))),o_ 25 (.asg (.t 31))] false [4,5,6,7,25]) (zrV))
def zqI:ACode:=.seq (.reg 0 [o_ 2 (.asg (.c (.str b156_))),o_ 3 (.asg (.c (.int .i64 0)))] false [2,3]) (.ret)
def zqH:ACode:=.seq (.block 0 (.seq (.reg 0 [o_ 14 (.mov (.t 7)),o_ 15 (.bin .geq .other 2 (.t 14) (.c (.int .i64 69))),o_ 16 (.mov (.t 15)),p_ 17 (.mov (.t 7)) 2 16 true,p_ 18 (.bin .leq .other 2 (.t 17) (.c (.int .i64 79))) 2 16 true,o_ 19 (.pick (.t 16) (.t 18) (.c (.bool false))),o_ 13 (.asg (.t 19))] false [4,5,6,7,13]) (zrU))) (zqI)
def zqG:ACode:=.seq (.reg 0 [o_ 11 (.mov (.t 0)),o_ 12 (.convi .i64 7 2 (.t 11)),o_ 7 (.asg (.t 12))] false [4,5,6,7]) (zqH)
def zqF:ACode:=.seq (.reg 1 [o_ 10 (.bslice 0 61 [.str b156_] 11 [(0,.c (.str b50_)),(1,.c (.str b137_)),(2,.c (.str b136_)),(3,.c (.str b79_)),(4,.c (.str b78_)),(5,.c (.str b77_)),(6,.c (.str b76_)),(7,.c (.str b75_)),(8,.c (.str b74_)),(9,.c (.str b73_)),(10,.c (.str b72_))]),o_ 6 (.asg (.t 10))] false [0,4,5,6]) (zqG)
def zqE:ACode:=.seq (.reg 1 [o_ 9 (.bslice 0 61 [.str b156_] 15 [(0,.c (.str ⟨#[97,100,100]⟩)),(1,.c (.str ⟨#[115,117,98]⟩)),(2,.c (.str ⟨#[109,117,108]⟩)),(3,.c (.str ⟨#[100,105,118,95,115]⟩)),(4,.c (.str ⟨#[100,105,118,95,117]⟩)),(5,.c (.str ⟨#[114,101,109,95,115]⟩)),(6,.c (.str ⟨#[114,101,109,95,117]⟩)),(7,.c (.str ⟨#[97,110,100]⟩)),(8,.c (.str ⟨#[111,114]⟩)),(9,.c (.str ⟨#[120,111,114]⟩)),(10,.c (.str ⟨#[115,104,108]⟩)),(11,.c (.str ⟨#[115,104,114,95,115]⟩)),(12,.c (.str ⟨#[115,104,114,95,117]⟩)),(13,.c (.str ⟨#[114,111,116,108]⟩)),(14,.c (.str ⟨#[114,111,116,114]⟩))]),o_ 5 (.asg (.t 9))] false [0,4,5]) (zqF)
def zqD:ACode:=.seq (.reg 1 [o_ 8 (.bslice 0 61 [.str b156_] 3 [(0,.c (.str b64_)),(1,.c (.str b63_)),(2,.c (.str b33_))]),o_ 4 (.asg (.t 8))] false [0,4]) (zqE)
def zqC:ACode:=.seq (.reg 0 [o_ 2 (.asg (.c (.str b156_))),o_ 3 (.asg (.c (.int .i64 0)))] false [0]) (zqD)
def zoq:AFun:={ nt:=94,res:=[.t 2,.t 3],code:=(zqC) }
def ztV:ACode:=.cond (.t 39) (.seq (.reg 0 [o_ 42 (.mov (.t 4)),o_ 43 (.callp 89 [.t 42]),o_ 44 (.build 43 [.nils,.int .u8 0] [(1,1,1,.t 43)]),⟨none,.store 43 2 (.t 2) (.t 44),none⟩,o_ 3 (.asg (.c .nili))] false [2,3]) (.ret)) (.skip)
def ztU:ACode:=.cond (.t 34) (.seq (.reg 1 [o_ 37 (.bslice 0 50 [.int .u8 0] 1 [(0,.c (.int .u8 127))]),o_ 38 (.build 43 [.nils,.int .u8 0] [(0,0,1,.t 37),(1,1,1,.c (.int .u8 127))]),⟨none,.store 43 2 (.t 2) (.t 38),none⟩,o_ 3 (.asg (.c .nili))] false [2,3]) (.ret)) (.seq (.reg 0 [o_ 40 (.mov (.t 0)),o_ 41 (.bin .leq .other 7 (.t 40) (.c (.int .u8 66))),o_ 39 (.asg (.t 41))] false [2,4,39]) (ztV))
def ztT:ACode:=.cond (.t 30) (.seq (.reg 0 [o_ 33 (.build 43 [.nils,.int .u8 0] [(1,1,1,.c (.int .u8 127))]),⟨none,.store 43 2 (.t 2) (.t 33),none⟩,o_ 3 (.asg (.c .nili))] false [2,3]) (.ret)) (.seq (.reg 0 [o_ 35 (.mov (.t 0)),o_ 36 (.bin .eql .other 7 (.t 35) (.c (.int .u8 64))),o_ 34 (.asg (.t 36))] false [0,2,4,34]) (ztU))
def ztS:ACode:=.cond (.t 23) (.seq (.reg 1 [o_ 26 (.mov (.t 4)),o_ 27 (.callp 89 [.t 26]),o_ 28 (.bslice 0 50 [.int .u8 0] 2 [(0,.c (.int .u8 127)),(1,.t 27)]),o_ 29 (.build 43 [.nils,.int .u8 0] [(0,0,1,.t 28)]),⟨none,.store 43 2 (.t 2) (.t 29),none⟩,o_ 3 (.asg (.c .nili))] false [2,3]) (.ret)) (.seq (.reg 0 [o_ 31 (.mov (.t 0)),o_ 32 (.bin .eql .other 7 (.t 31) (.c (.int .u8 63))),o_ 30 (.asg (.t 32))] false [0,2,4,30]) (ztT))
def ztR:ACode:=.cond (.t 16) (.seq (.reg 1 [o_ 19 (.bslice 0 50 [.int .u8 0] 1 [(0,.c (.int .u8 127))]),o_ 20 (.mov (.t 4)),o_ 21 (.callp 89 [.t 20]),o_ 22 (.build 43 [.nils,.int .u8 0] [(0,0,1,.t 19),(1,1,1,.t 21)]),⟨none,.store 43 2 (.t 2) (.t 22),none⟩,o_ 3 (.asg (.c .nili))] false [2,3]) (.ret)) (.seq (.reg 0 [o_ 24 (.mov (.t 0)),o_ 25 (.bin .leq .other 7 (.t 24) (.c (.int .u8 62))),o_ 23 (.asg (.t 25))] false [0,2,4,23]) (ztS))
def ztQ:ACode:=.cond (.t 7) (.seq (.reg 0 [o_ 14 (.build 43 [.nils,.int .u8 0] []),o_ 15 (.mkif 45 (.c (.int .i64 1))),⟨none,.store 43 2 (.t 2) (.t 14),none⟩,o_ 3 (.asg (.t 15))] false [2,3]) (.ret)) (.seq (.reg 0 [o_ 17 (.mov (.t 0)),o_ 18 (.bin .leq .other 7 (.t 17) (.c (.int .u8 53))),o_ 16 (.asg (.t 18))] false [0,2,4,16]) (ztR))
def ztP:ACode:=.seq (.reg 0 [o_ 45 (.mov (.t 4)),o_ 46 (.callp 90 [.t 45]),⟨none,.store 43 2 (.t 2) (.t 46),none⟩,o_ 3 (.asg (.c .nili))] false [2,3]) (.ret)
def ztO:ACode:=.seq (.block 0 (.seq (.reg 0 [o_ 8 (.mov (.t 4)),o_ 9 (.bin .eql .other 39 (.t 8) (.c (.str b156_))),o_ 10 (.mov (.t 9)),p_ 11 (.mov (.t 0)) 2 10 false,p_ 12 (.bin .lss .other 7 (.t 11) (.c (.int .u8 40))) 2 10 false,o_ 13 (.pick (.t 10) (.c (.bool true)) (.t 12)),o_ 7 (.asg (.t 13))] false [0,2,4,7]) (ztQ))) (ztP)
def ztN:ACode:=.seq (.reg 0 [o_ 5 (.mov (.t 0)),o_ 6 (.callp 88 [.t 5]),o_ 4 (.asg (.t 6))] false [0,2,4]) (ztO)
def zsE:ACode:=.seq (.reg 1 [o_ 2 (.alloc 0 43 [.nils,.int .u8 0]),o_ 3 (.asg (.c .nili))] false [0,2]) (ztN)
def ztm:AFun:={ nt:=47,res:=[.cell 2 43 true 2,.t 3],code:=(zsE) }
def zsR:ACode:=.cond (.t 19) (.seq (.reg 0 [o_ 20 (.mkif 45 (.c (.int .i64 1))),o_ 2 (.asg (.c (.int .i64 0))),o_ 3 (.asg (.c (.bool false))),o_ 4 (.asg (.t 20))] false [2,3,4]) (.ret)) (.skip)
def zsQ:ACode:=.cond (.t 36) (.seq (.reg 0 [o_ 44 (.mov (.t 7)),o_ 2 (.asg (.c (.int .i64 4))),o_ 3 (.asg (.t 44)),o_ 4 (.asg (.c .nili))] false [2,3,4]) (.ret)) (.skip)
def zsP:ACode:=.cond (.t 32) (.seq (.reg 0 [o_ 35 (.mov (.t 7)),o_ 2 (.asg (.c (.int .i64 2))),o_ 3 (.asg (.t 35)),o_ 4 (.asg (.c .nili))] false [2,3,4]) (.ret)) (.seq (.reg 0 [o_ 37 (.mov (.t 6)),o_ 38 (.callp 93 [.t 37,.c (.str ⟨#[51,50]⟩)]),o_ 39 (.mov (.t 38)),p_ 40 (.mov (.t 5)) 2 39 false,p_ 41 (.callp 89 [.t 40]) 2 39 false,p_ 42 (.bin .eql .other 51 (.t 41) (.c (.int .u8 127))) 2 39 false,o_ 43 (.pick (.t 39) (.c (.bool true)) (.t 42)),o_ 36 (.asg (.t 43))] false [7,36]) (zsQ))
def zsO:ACode:=.cond (.t 28) (.seq (.reg 0 [o_ 31 (.mov (.t 7)),o_ 2 (.asg (.c (.int .i64 1))),o_ 3 (.asg (.t 31)),o_ 4 (.asg (.c .nili))] false [2,3,4]) (.ret)) (.seq (.reg 0 [o_ 33 (.mov (.t 6)),o_ 34 (.callp 93 [.t 33,.c (.str ⟨#[49,54]⟩)]),o_ 32 (.asg (.t 34))] false [5,6,7,32]) (zsP))
def zsN:ACode:=.seq (.reg 0 [o_ 45 (.mov (.t 7)),o_ 2 (.asg (.c (.int .i64 8))),o_ 3 (.asg (.t 45)),o_ 4 (.asg (.c .nili))] false [2,3,4]) (.ret)
def zsM:ACode:=.seq (.block 0 (.seq (.reg 0 [o_ 29 (.mov (.t 6)),o_ 30 (.callp 93 [.t 29,.c (.str b151_)]),o_ 28 (.asg (.t 30))] false [5,6,7,28]) (zsO))) (zsN)
def zsL:ACode:=.seq (.reg 0 [o_ 26 (.mov (.t 6)),o_ 27 (.callp 92 [.t 26,.c (.str b140_)]),o_ 6 (.asg (.t 27))] false [5,6,7]) (zsM)
def zsK:ACode:=.seq (.reg 0 [o_ 22 (.mov (.t 5)),o_ 23 (.callp 91 [.t 22,.c (.str b141_)]),o_ 21 (.mov (.t 23)),o_ 24 (.ext (.t 21) 0),o_ 25 (.ext (.t 21) 1),o_ 6 (.asg (.t 24)),o_ 7 (.asg (.t 25))] false [5,6,7]) (zsL)
def zsJ:ACode:=.seq (.seq (.reg 0 [o_ 10 (.mov (.t 5)),o_ 11 (.bin .eql .other 39 (.t 10) (.c (.str b156_))),o_ 12 (.mov (.t 11)),p_ 13 (.mov (.t 0)) 2 12 false,p_ 14 (.bin .lss .other 7 (.t 13) (.c (.int .u8 40))) 2 12 false,o_ 15 (.pick (.t 12) (.c (.bool true)) (.t 14)),o_ 16 (.mov (.t 15)),p_ 17 (.mov (.t 0)) 6 16 false,p_ 18 (.bin .gtr .other 7 (.t 17) (.c (.int .u8 62))) 6 16 false,o_ 19 (.pick (.t 16) (.c (.bool true)) (.t 18))] false [5,19]) (zsR)) (zsK)
def zsf:ACode:=.seq (.reg 0 [o_ 8 (.mov (.t 0)),o_ 9 (.callp 88 [.t 8]),o_ 5 (.asg (.t 9))] false [0,5]) (zsJ)
def zse:ACode:=.seq (.reg 0 [o_ 2 (.asg (.c (.int .i64 0))),o_ 3 (.asg (.c (.bool false))),o_ 4 (.asg (.c .nili))] false [0]) (zsf)
def zsg:AFun:={ nt:=46,res:=[.t 2,.t 3,.t 4],code:=(zse) }
def zui:ACode:=.cond (.t 61) (.seq (.reg 0 [o_ 2 (.asg (.c (.int .i64 2))),o_ 3 (.asg (.c .nili))] false [2,3]) (.ret)) (.skip)
def zuh:ACode:=.cond (.t 58) (.seq (.reg 0 [o_ 2 (.asg (.c (.int .i64 1))),o_ 3 (.asg (.c .nili))] false [2,3]) (.ret)) (.seq (.reg 0 [o_ 62 (.mov (.t 0)),o_ 63 (.bin .eql .other 7 (.t 62) (.c (.int .u8 66))),o_ 61 (.asg (.t 63))] false [61]) (zui))
def zug:ACode:=.cond (.t 51) (.seq (.reg 0 [o_ 2 (.asg (.c (.int .i64 5))),o_ 3 (.asg (.c .nili))] false [2,3]) (.ret)) (.seq (.reg 0 [o_ 59 (.mov (.t 0)),o_ 60 (.bin .eql .other 7 (.t 59) (.c (.int .u8 65))),o_ 58 (.asg (.t 60))] false [0,58]) (zuh))
def zuf:ACode:=.cond (.t 44) (.seq (.reg 0 [o_ 2 (.asg (.c (.int .i64 4))),o_ 3 (.asg (.c .nili))] false [2,3]) (.ret)) (.seq (.reg 0 [o_ 52 (.mov (.t 0)),o_ 53 (.bin .eql .other 7 (.t 52) (.c (.int .u8 63))),o_ 54 (.mov (.t 53)),p_ 55 (.mov (.t 0)) 2 54 false,p_ 56 (.bin .eql .other 7 (.t 55) (.c (.int .u8 64))) 2 54 false,o_ 57 (.pick (.t 54) (.c (.bool true)) (.t 56)),o_ 51 (.asg (.t 57))] false [0,51]) (zug))
def zue:ACode:=.cond (.t 25) (.seq (.reg 0 [o_ 2 (.asg (.c (.int .i64 3))),o_ 3 (.asg (.c .nili))] false [2,3]) (.ret)) (.seq (.reg 0 [o_ 45 (.mov (.t 0)),o_ 46 (.bin .geq .other 7 (.t 45) (.c (.int .u8 40))),o_ 47 (.mov (.t 46)),p_ 48 (.mov (.t 0)) 2 47 true,p_ 49 (.bin .leq .other 7 (.t 48) (.c (.int .u8 62))) 2 47 true,o_ 50 (.pick (.t 47) (.t 49) (.c (.bool false))),o_ 44 (.asg (.t 50))] false [0,44]) (zuf))
def zud:ACode:=.cond (.t 22) (.seq (.reg 0 [o_ 2 (.asg (.c (.int .i64 9))),o_ 3 (.asg (.c .nili))] false [2,3]) (.ret)) (.seq (.reg 0 [o_ 26 (.mov (.t 0)),o_ 27 (.bin .eql .other 7 (.t 26) (.c (.int .u8 12))),o_ 28 (.mov (.t 27)),p_ 29 (.mov (.t 0)) 2 28 false,p_ 30 (.bin .eql .other 7 (.t 29) (.c (.int .u8 13))) 2 28 false,o_ 31 (.pick (.t 28) (.c (.bool true)) (.t 30)),o_ 32 (.mov (.t 31)),p_ 33 (.mov (.t 0)) 6 32 false,p_ 34 (.bin .eql .other 7 (.t 33) (.c (.int .u8 16))) 6 32 false,o_ 35 (.pick (.t 32) (.c (.bool true)) (.t 34)),o_ 36 (.mov (.t 35)),p_ 37 (.mov (.t 0)) 10 36 false,p_ 38 (.bin .geq .other 7 (.t 37) (.c (.int .u8 32))) 10 36 false,p_ 39 (.mov (.t 38)) 10 36 false,p_ 40 (.mov (.t 0)) 13 39 true,p_ 41 (.bin .leq .other 7 (.t 40) (.c (.int .u8 36))) 13 39 true,p_ 42 (.pick (.t 39) (.t 41) (.c (.bool false))) 10 36 false,o_ 43 (.pick (.t 36) (.c (.bool true)) (.t 42)),o_ 25 (.asg (.t 43))] false [0,25]) (zue))
def zuc:ACode:=.cond (.t 19) (.seq (.reg 0 [o_ 2 (.asg (.c (.int .i64 8))),o_ 3 (.asg (.c .nili))] false [2,3]) (.ret)) (.seq (.reg 0 [o_ 23 (.mov (.t 0)),o_ 24 (.bin .eql .other 7 (.t 23) (.c (.int .u8 17))),o_ 22 (.asg (.t 24))] false [0,22]) (zud))
def zub:ACode:=.cond (.t 16) (.seq (.reg 0 [o_ 2 (.asg (.c (.int .i64 7))),o_ 3 (.asg (.c .nili))] false [2,3]) (.ret)) (.seq (.reg 0 [o_ 20 (.mov (.t 0)),o_ 21 (.bin .eql .other 7 (.t 20) (.c (.int .u8 14))),o_ 19 (.asg (.t 21))] false [0,19]) (zuc))
def zua:ACode:=.cond (.t 9) (.seq (.reg 0 [o_ 2 (.asg (.c (.int .i64 6))),o_ 3 (.asg (.c .nili))] false [2,3]) (.ret)) (.seq (.reg 0 [o_ 17 (.mov (.t 0)),o_ 18 (.bin .eql .other 7 (.t 17) (.c (.int .u8 4))),o_ 16 (.asg (.t 18))] false [0,16]) (zub))
def zsI:ACode:=.cond (.t 4) (.seq (.reg 0 [o_ 8 (.mkif 45 (.c (.int .i64 1))),o_ 2 (.asg (.c (.int .i64 0))),o_ 3 (.asg (.t 8))] false [2,3]) (.ret)) (.seq (.reg 0 [o_ 10 (.mov (.t 0)),o_ 11 (.bin .eql .other 7 (.t 10) (.c (.int .u8 2))),o_ 12 (.mov (.t 11)),p_ 13 (.mov (.t 0)) 2 12 false,p_ 14 (.bin .eql .other 7 (.t 13) (.c (.int .u8 3))) 2 12 false,o_ 15 (.pick (.t 12) (.c (.bool true)) (.t 14)),o_ 9 (.asg (.t 15))] false [0,9]) (zua))
def zsH:ACode:=.seq (.reg 0 [o_ 2 (.asg (.c (.int .i64 0))),o_ 3 (.asg (.c .nili))] false [2,3]) (.ret)
def zsG:ACode:=.seq (.block 0 (.seq (.reg 0 [o_ 5 (.mov (.t 0)),o_ 6 (.callp 88 [.t 5]),o_ 7 (.bin .eql .other 39 (.t 6) (.c (.str b156_))),o_ 4 (.asg (.t 7))] false [0,4]) (zsI))) (zsH)
def zsF:ACode:=.seq (.reg 0 [o_ 2 (.asg (.c (.int .i64 0))),o_ 3 (.asg (.c .nili))] false [0]) (zsG)
def ztn:AFun:={ nt:=64,res:=[.t 2,.t 3],code:=(zsF) }
def ztZ:ACode:=.cond (.t 7) (.seq (.reg 0 [o_ 2 (.asg (.c (.str b156_)))] false [2]) (.ret)) (.skip)
def ztY:ACode:=.seq (.reg 0 [o_ 8 (.callp 96 []),o_ 9 (.mov (.t 0)),o_ 10 (.idxA 62 174 false 1 (.t 8) (.t 9)),o_ 2 (.asg (.t 10))] false [2]) (.ret)
def ztX:ACode:=.seq (.seq (.reg 0 [o_ 3 (.mov (.t 0)),o_ 4 (.convi .i64 7 2 (.t 3)),o_ 5 (.callp 96 []),o_ 6 (.mov (.c (.int .i64 174))),o_ 7 (.bin .geq .other 2 (.t 4) (.t 6))] false [0,7]) (ztZ)) (ztY)
def ztW:ACode:=.seq (.reg 0 [o_ 2 (.asg (.c (.str b156_)))] false [0]) (ztX)
def zoe:AFun:={ nt:=11,res:=[.t 2],code:=(ztW) }
def zuP:ACode:=.cond (.t 4) (.seq (.reg 0 [o_ 2 (.asg (.c (.int .u8 126)))] false [2]) (.ret)) (.skip)
def zuO:ACode:=.seq (.seq (.reg 0 [o_ 3 (.mov (.t 0)),o_ 4 (.callp 97 [.t 3,.c (.str b47_)])] false [4]) (zuP)) (.seq (.reg 0 [o_ 2 (.asg (.c (.int .u8 127)))] false [2]) (.ret))
def zuN:ACode:=.seq (.reg 0 [o_ 2 (.asg (.c (.int .u8 0)))] false [0]) (zuO)
def zuQ:AFun:={ nt:=5,res:=[.t 2],code:=(zuN) }
def zod:ACode:=.cond (.t 48) (.seq (.reg 1 [o_ 54 (.mov (.t 3)),o_ 55 (.mov (.t 3)),o_ 56 (.bslice 0 50 [.int .u8 0] 2 [(0,.t 54),(1,.t 55)]),o_ 57 (.build 43 [.nils,.int .u8 0] [(0,0,1,.t 56),(1,1,1,.c (.int .u8 127))]),⟨none,.store 43 2 (.t 2) (.t 57),none⟩] false [2]) (.ret)) (.skip)
def zoc:ACode:=.cond (.t 33) (.seq (.reg 1 [o_ 44 (.mov (.t 3)),o_ 45 (.bslice 0 50 [.int .u8 0] 1 [(0,.t 44)]),o_ 46 (.mov (.t 3)),o_ 47 (.build 43 [.nils,.int .u8 0] [(0,0,1,.t 45),(1,1,1,.t 46)]),⟨none,.store 43 2 (.t 2) (.t 47),none⟩] false [2]) (.ret)) (.seq (.reg 0 [o_ 49 (.mov (.t 5)),o_ 50 (.slcS 39 (.t 49) none (some (.c (.int .i64 2)))),o_ 51 (.bin .add .other 39 (.c (.str b152_)) (.t 50)),o_ 52 (.bin .add .other 39 (.t 51) (.c (.str b152_))),o_ 53 (.callp 99 [.c (.str ⟨#[32,101,113,32,110,101,32,108,116,32,103,116,32,108,101,32,103,101,32]⟩),.t 52]),o_ 48 (.asg (.t 53))] false [2,3,48]) (zod))
def zob:ACode:=.cond (.t 27) (.seq (.reg 1 [o_ 30 (.mov (.t 3)),o_ 31 (.bslice 0 50 [.int .u8 0] 1 [(0,.t 30)]),o_ 32 (.build 43 [.nils,.int .u8 0] [(0,0,1,.t 31),(1,1,1,.c (.int .u8 127))]),⟨none,.store 43 2 (.t 2) (.t 32),none⟩] false [2]) (.ret)) (.seq (.reg 0 [o_ 34 (.mov (.t 5)),o_ 35 (.bin .eql .other 39 (.t 34) (.c (.str b64_))),o_ 36 (.mov (.t 35)),p_ 37 (.mov (.t 5)) 2 36 false,p_ 38 (.bin .eql .other 39 (.t 37) (.c (.str b63_))) 2 36 false,o_ 39 (.pick (.t 36) (.c (.bool true)) (.t 38)),o_ 40 (.mov (.t 39)),p_ 41 (.mov (.t 5)) 6 40 false,p_ 42 (.bin .eql .other 39 (.t 41) (.c (.str b33_))) 6 40 false,o_ 43 (.pick (.t 40) (.c (.bool true)) (.t 42)),o_ 33 (.asg (.t 43))] false [2,3,5,33]) (zoc))
def zoa:ACode:=.cond (.t 21) (.seq (.reg 1 [o_ 24 (.bslice 0 50 [.int .u8 0] 1 [(0,.c (.int .u8 127))]),o_ 25 (.mov (.t 3)),o_ 26 (.build 43 [.nils,.int .u8 0] [(0,0,1,.t 24),(1,1,1,.t 25)]),⟨none,.store 43 2 (.t 2) (.t 26),none⟩] false [2]) (.ret)) (.seq (.reg 0 [o_ 28 (.mov (.t 5)),o_ 29 (.bin .eql .other 39 (.t 28) (.c (.str b50_))),o_ 27 (.asg (.t 29))] false [2,3,5,27]) (zob))
def znZ:ACode:=.cond (.t 15) (.seq (.reg 1 [o_ 18 (.bslice 0 50 [.int .u8 0] 1 [(0,.c (.int .u8 126))]),o_ 19 (.mov (.t 3)),o_ 20 (.build 43 [.nils,.int .u8 0] [(0,0,1,.t 18),(1,1,1,.t 19)]),⟨none,.store 43 2 (.t 2) (.t 20),none⟩] false [2]) (.ret)) (.seq (.reg 0 [o_ 22 (.mov (.t 5)),o_ 23 (.callp 99 [.t 22,.c (.str ⟨#[101,120,116,101,110,100]⟩)]),o_ 21 (.asg (.t 23))] false [2,3,5,21]) (zoa))
def znY:ACode:=.seq (.reg 1 [o_ 58 (.mov (.t 3)),o_ 59 (.mov (.t 3)),o_ 60 (.bslice 0 50 [.int .u8 0] 2 [(0,.t 58),(1,.t 59)]),o_ 61 (.mov (.t 3)),o_ 62 (.build 43 [.nils,.int .u8 0] [(0,0,1,.t 60),(1,1,1,.t 61)]),⟨none,.store 43 2 (.t 2) (.t 62),none⟩] false [2]) (.ret)
def znX:ACode:=.seq (.block 0 (.seq (.reg 0 [o_ 16 (.mov (.t 0)),o_ 17 (.callp 93 [.t 16,.c (.str ⟨#[95,105,54,52]⟩)]),o_ 15 (.asg (.t 17))] false [2,3,5,15]) (znZ))) (znY)
def znW:ACode:=.seq (.reg 0 [o_ 10 (.mov (.t 0)),o_ 11 (.callp 98 [.t 10,.c (.str ⟨#[46]⟩)]),o_ 9 (.mov (.t 11)),o_ 12 (.ext (.t 9) 0),o_ 13 (.ext (.t 9) 1),o_ 14 (.ext (.t 9) 2),o_ 4 (.asg (.t 12)),o_ 5 (.asg (.t 13)),o_ 6 (.asg (.t 14))] false [0,2,3,5]) (znX)
def znV:ACode:=.seq (.reg 0 [o_ 7 (.mov (.t 0)),o_ 8 (.callp 89 [.t 7]),o_ 3 (.asg (.t 8))] false [0,2,3]) (znW)
def zmM:ACode:=.seq (.reg 1 [o_ 2 (.alloc 0 43 [.nils,.int .u8 0])] false [0,2]) (znV)
def zmd:AFun:={ nt:=63,res:=[.cell 2 43 true 2],code:=(zmM) }
def zjv:ACode:=.seq (.reg 0 [o_ 6 (.mov (.t 0)),o_ 7 (.mov (.t 1)),o_ 8 (.callp 100 [.t 6,.t 7]),o_ 9 (.ext (.t 8) 0),o_ 10 (.ext (.t 8) 1),o_ 4 (.asg (.t 9)),o_ 5 (.asg (.t 10))] false [4,5]) (.ret)
def zju:ACode:=.seq (.reg 0 [o_ 4 (.asg (.c (.str b156_))),o_ 5 (.asg (.c (.bool false)))] false [0,1]) (zjv)
def zgj:AFun:={ nt:=11,res:=[.t 4,.t 5],code:=(zju) }
def zja:ACode:=.seq (.reg 0 [o_ 5 (.mov (.t 0)),o_ 6 (.mov (.t 1)),o_ 7 (.callp 101 [.t 5,.t 6]),o_ 4 (.asg (.t 7))] false [4]) (.ret)
def ziZ:ACode:=.seq (.reg 0 [o_ 4 (.asg (.c (.str b156_)))] false [0,1]) (zja)
def zfh:AFun:={ nt:=8,res:=[.t 4],code:=(ziZ) }
def zjr:ACode:=.seq (.reg 0 [o_ 5 (.mov (.t 0)),o_ 6 (.mov (.t 1)),o_ 7 (.callp 102 [.t 5,.t 6]),o_ 4 (.asg (.t 7))] false [4]) (.ret)
def zjq:ACode:=.seq (.reg 0 [o_ 4 (.asg (.c (.bool false)))] false [0,1]) (zjr)
def zgh:AFun:={ nt:=8,res:=[.t 4],code:=(zjq) }
def zsD:ACode:=.seq (.reg 0 [o_ 1 (.build 62 [.str b156_,.str b156_,.str b156_,.str b156_,.str b156_,.str b156_,.str b156_,.str b156_,.str b156_,.str b156_,.str b156_,.str b156_,.str b156_,.str b156_,.str b156_,.str b156_,.str b156_,.str b156_,.str b156_,.str b156_,.str b156_,.str b156_,.str b156_,.str b156_,.str b156_,.str b156_,.str b156_,.str b156_,.str b156_,.str b156_,.str b156_,.str b156_,.str b156_,.str b156_,.str b156_,.str b156_,.str b156_,.str b156_,.str b156_,.str b156_,.str b156_,.str b156_,.str b156_,.str b156_,.str b156_,.str b156_,.str b156_,.str b156_,.str b156_,.str b156_,.str b156_,.str b156_,.str b156_,.str b156_,.str b156_,.str b156_,.str b156_,.str b156_,.str b156_,.str b156_,.str b156_,.str b156_,.str b156_,.str b156_,.str b156_,.str b156_,.str b156_,.str b156_,.str b156_,.str b156_,.str b156_,.str b156_,.str b156_,.str b156_,.str b156_,.str b156_,.str b156_,.str b156_,.str b156_,.str b156_,.str b156_,.str b156_,.str b156_,.str b156_,.str b156_,.str b156_,.str b156_,.str b156_,.str b156_,.str b156_,.str b156_,.str b156_,.str b156_,.str b156_,.str b156_,.str b156_,.str b156_,.str b156_,.str b156_,.str b156_,.str b156_,.str b156_,.str b156_,.str b156_,.str b156_,.str b156_,.str b156_,.str b156_,.str b156_,.str b156_,.str b156_,.str b156_,.str b156_,.str b156_,.str b156_,.str b156_,.str b156_,.str b156_,.str b156_,.str b156_,.str b156_,.str b156_,.str b156_,.str b156_,.str b156_,.str b156_,.str b156_,.str b156_,.str b156_,.str b156_,.str b156_,.str b156_,.str b156_,.str b156_,.str b156_,.str b156_,.str b156_,.str b156_,.str b156_,.str b156_,.str b156_,.str b156_,.str b156_,.str b156_,.str b156_,.str b156_,.str b156_,.str b156_,.str b156_,.str b156_,.str b156_,.str b156_,.str b156_,.str b156_,.str b156_,.str b156_,.str b156_,.str b156_,.str b156_,.str b156_,.str b156_,.str b156_,.str b156_,.str b156_,.str b156_,.str b156_,.str b156_,.str b156_,.str b156_,.str b156_,.str b156_,.str b156_,.str b156_,.str b156_] [(0,0,1,.c (.str b21_)),(1,1,1,.c (.str b118_)),(2,2,1,.c (.str b42_)),(3,3,1,.c (.str b44_)),(4,4,1,.c (.str b125_)),(12,12,1,.c (.str b132_)),(13,13,1,.c (.str b41_)),(14,14,1,.c (.str b13_)),(15,15,1,.c (.str b43_)),(16,16,1,.c (.str b46_)),(17,17,1,.c (.str b2_)),(26,26,1,.c (.str b65_)),(27,27,1,.c (.str b45_)),(32,32,1,.c (.str b10_)),(33,33,1,.c (.str b9_)),(34,34,1,.c (.str b8_)),(35,35,1,.c (.str b6_)),(36,36,1,.c (.str b5_)),(40,40,1,.c (.str b40_)),(41,41,1,.c (.str b39_)),(44,44,1,.c (.str b25_)),(45,45,1,.c (.str b26_)),(46,46,1,.c (.str b15_)),(47,47,1,.c (.str b16_)),(48,48,1,.c (.str b27_)),(49,49,1,.c (.str b28_)),(50,50,1,.c (.str b17_)),(51,51,1,.c (.str b18_)),(52,52,1,.c (.str b19_)),(53,53,1,.c (.str b20_)),(54,54,1,.c (.str b34_)),(55,55,1,.c (.str b35_)),(58,58,1,.c (.str b29_)),(59,59,1,.c (.str b22_)),(60,60,1,.c (.str b30_)),(61,61,1,.c (.str b23_)),(62,62,1,.c (.str b24_)),(63,63,1,.c (.str b1_)),(64,64,1,.c (.str b0_)),(65,65,1,.c (.str b12_)),(66,66,1,.c (.str b11_)),(69,69,1,.c (.str ⟨#[105,51,50,46,101,113,122]⟩)),(70,70,1,.c (.str ⟨#[105,51,50,46,101,113]⟩)),(71,71,1,.c (.str ⟨#[105,51,50,46,110,101]⟩)),(72,72,1,.c (.str ⟨#[105,51,50,46,108,116,95,115]⟩)),(73,73,1,.c (.str ⟨#[105,51,50,46,108,116,95,117]⟩)),(74,74,1,.c (.str ⟨#[105,51,50,46,103,116,95,115]⟩)),(75,75,1,.c (.str ⟨#[105,51,50,46,103,116,95,117]⟩)),(76,76,1,.c (.str ⟨#[105,51,50,46,108,101,95,115]⟩)),(77,77,1,.c (.str ⟨#[105,51,50,46,108,101,95,117]⟩)),(78,78,1,.c (.str ⟨#[105,51,50,46,103,101,95,115]⟩)),(79,79,1,.c (.str ⟨#[105,51,50,46,103,101,95,117]⟩)),(80,80,1,.c (.str ⟨#[105,54,52,46,101,113,122]⟩)),(81,81,1,.c (.str ⟨#[105,54,52,46,101,113]⟩)),(82,82,1,.c (.str ⟨#[105,54,52,46,110,101]⟩)),(83,83,1,.c (.str ⟨#[105,54,52,46,108,116,95,115]⟩)),(84,84,1,.c (.str ⟨#[105,54,52,46,108,116,95,117]⟩)),(85,85,1,.c (.str ⟨#[105,54,52,46,103,116,95,115]⟩)),(86,86,1,.c (.str ⟨#[105,54,52,46,103,116,95,117]⟩)),(87,87,1,.c (.str ⟨#[105,54,52,46,108,101,95,115]⟩)),(88,88,1,.c (.str ⟨#[105,54,52,46,108,101,95,117]⟩)),(89,89,1,.c (.str ⟨#[105,54,52,46,103,101,95,115]⟩)),(90,90,1,.c (.str ⟨#[105,54,52,46,103,101,95,117]⟩)),(103,103,1,.c (.str ⟨#[105,51,50,46,99,108,122]⟩)),(104,104,1,.c (.str ⟨#[105,51,50,46,99,116,122]⟩)),(105,105,1,.c (.str ⟨#[105,51,50,46,112,111,112,99,110,116]⟩)),(106,106,1,.c (.str ⟨#[105,51,50,46,97,100,100]⟩)),(107,107,1,.c (.str ⟨#[105,51,50,46,115,117,98]⟩)),(108,108,1,.c (.str ⟨#[105,51,50,46,109,117,108]⟩)),(109,109,1,.c (.str ⟨#[105,51,50,46,100,105,118,95,115]⟩)),(110,110,1,.c (.str ⟨#[105,51,50,46,100,105,118,95,117]⟩)),(111,111,1,.c (.str ⟨#[105,51,50,46,114,101,109,95,115]⟩)),(112,112,1,.c (.str ⟨#[105,51,50,46,114,101,109,95,117]⟩)),(113,113,1,.c (.str ⟨#[105,51,50,46,97,110,100]⟩)),(114,114,1,.c (.str ⟨#[105,51,50,46,111,114]⟩)),(115,115,1,.c (.str ⟨#[105,51,50,46,120,111,114]⟩)),(116,116,1,.c (.str ⟨#[105,51,50,46,115,104,108]⟩)),(117,117,1,.c (.str ⟨#[105,51,50,46,115,104,114,95,115]⟩)),(118,118,1,.c (.str ⟨#[105,51,50,46,115,104,114,95,117]⟩)),(119,119,1,.c (.str ⟨#[105,51,50,46,114,111,116,108]⟩)),(120,120,1,.c (.str ⟨#[105,51,50,46,114,111,116,114]⟩)),(121,121,1,.c (.str ⟨#[105,54,52,46,99,108,122]⟩)),(122,122,1,.c (.str ⟨#[105,54,52,46,99,116,122]⟩)),(123,123,1,.c (.str ⟨#[105,54,52,46,112,111,112,99,110,116]⟩)),(124,124,1,.c (.str ⟨#[105,54,52,46,97,100,100]⟩)),(125,125,1,.c (.str ⟨#[105,54,52,46,115,117,98]⟩)),(126,126,1,.c (.str ⟨#[105,54,52,46,109,117,108]⟩)),(127,127,1,.c (.str ⟨#[105,54,52,46,100,105,118,95,115]⟩)),(128,128,1,.c (.str ⟨#[105,54,52,46,100,105,118,95,117]⟩)),(129,129,1,.c (.str ⟨#[105,54,52,46,114,101,109,95,115]⟩)),(130,130,1,.c (.str ⟨#[105,54,52,46,114,101,109,95,117]⟩)),(131,131,1,.c (.str ⟨#[105,54,52,46,97,110,100]⟩)),(132,132,1,.c (.str ⟨#[105,54,52,46,111,114]⟩)),(133,133,1,.c (.str ⟨#[105,54,52,46,120,111,114]⟩)),(134,134,1,.c (.str ⟨#[105,54,52,46,115,104,108]⟩)),(135,135,1,.c (.str ⟨#[105,54,52,46,115,104,114,95,115]⟩)),(136,136,1,.c (.str ⟨#[105,54,52,46,115,104,114,95,117]⟩)),(137,137,1,.c (.str ⟨#[105,54,52,46,114,111,116,108]⟩)),(138,138,1,.c (.str ⟨#[105,54,52,46,114,111,116,114]⟩)),(167,167,1,.c (.str b14_)),(172,172,1,.c (.str b4_)),(173,173,1,.c (.str b3_))]),⟨none,.store 62 174 (.t 0) (.t 1),none⟩] false [0]) (.ret)
def zsC:ACode:=.seq (.reg 1 [o_ 0 (.alloc 0 62 [.str b156_,.str b156_,.str b156_,.str b156_,.str b156_,.str b156_,.str b156_,.str b156_,.str b156_,.str b156_,.str b156_,.str b156_,.str b156_,.str b156_,.str b156_,.str b156_,.str b156_,.str b156_,.str b156_,.str b156_,.str b156_,.str b156_,.str b156_,.str b156_,.str b156_,.str b156_,.str b156_,.str b156_,.str b156_,.str b156_,.str b156_,.str b156_,.str b156_,.str b156_,.str b156_,.str b156_,.str b156_,.str b156_,.str b156_,.str b156_,.str b156_,.str b156_,.str b156_,.str b156_,.str b156_,.str b156_,.str b156_,.str b156_,.str b156_,.str b156_,.str b156_,.str b156_,.str b156_,.str b156_,.str b156_,.str b156_,.str b156_,.str b156_,.str b156_,.str b156_,.str b156_,.str b156_,.str b156_,.str b156_,.str b156_,.str b156_,.str b156_,.str b156_,.str b156_,.str b156_,.str b156_,.str b156_,.str b156_,.str b156_,.str b156_,.str b156_,.str b156_,.str b156_,.str b156_,.str b156_,.str b156_,.str b156_,.str b156_,.str b156_,.str b156_,.str b156_,.str b156_,.str b156_,.str b156_,.str b156_,.str b156_,.str b156_,.str b156_,.str b156_,.str b156_,.str b156_,.str b156_,.str b156_,.str b156_,.str b156_,.str b156_,.str b156_,.str b156_,.str b156_,.str b156_,.str b156_,.str b156_,.str b156_,.str b156_,.str b156_,.str b156_,.str b156_,.str b156_,.str b156_,.str b156_,.str b156_,.str b156_,.str b156_,.str b156_,.str b156_,.str b156_,.str b156_,.str b156_,.str b156_,.str b156_,.str b156_,.str b156_,.str b156_,.str b156_,.str b156_,.str b156_,.str b156_,.str b156_,.str b156_,.str b156_,.str b156_,.str b156_,.str b156_,.str b156_,.str b156_,.str b156_,.str b156_,.str b156_,.str b156_,.str b156_,.str b156_,.str b156_,.str b156_,.str b156_,.str b156_,.str b156_,.str b156_,.str b156_,.str b156_,.str b156_,.str b156_,.str b156_,.str b156_,.str b156_,.str b156_,.str b156_,.str b156_,.str b156_,.str b156_,.str b156_,.str b156_,.str b156_,.str b156_,.str b156_,.str b156_,.str b156_,.str b156_,.str b156_,.str b156_])] false [0]) (zsD)
def zsd:AFun:={ nt:=2,res:=[.cell 0 62 true 174],code:=(zsC) }
def zjt:ACode:=.seq (.reg 0 [o_ 5 (.mov (.t 0)),o_ 6 (.mov (.t 1)),o_ 7 (.callp 103 [.t 5,.t 6]),o_ 4 (.asg (.t 7))] false [4]) (.ret)
def zjs:ACode:=.seq (.reg 0 [o_ 4 (.asg (.c (.bool false)))] false [0,1]) (zjt)
def zgi:AFun:={ nt:=8,res:=[.t 4],code:=(zjs) }
def zpj:ACode:=.seq (.reg 0 [o_ 7 (.mov (.t 0)),o_ 8 (.mov (.t 1)),o_ 9 (.callp 104 [.t 7,.t 8]),o_ 10 (.ext (.t 9) 0),o_ 11 (.ext (.t 9) 1),o_ 12 (.ext (.t 9) 2),o_ 4 (.asg (.t 10)),o_ 5 (.asg (.t 11)),o_ 6 (.asg (.t 12))] false [4,5,6]) (.ret)
def zpi:ACode:=.seq (.reg 0 [o_ 4 (.asg (.c (.str b156_))),o_ 5 (.asg (.c (.str b156_))),o_ 6 (.asg (.c (.bool false)))] false [0,1]) (zpj)
def zmK:AFun:={ nt:=13,res:=[.t 4,.t 5,.t 6],code:=(zpi) }
def zkz:ACode:=.seq (.reg 0 [o_ 5 (.mov (.t 0)),o_ 6 (.mov (.t 1)),o_ 7 (.callp 105 [.t 5,.t 6]),o_ 8 (.bin .geq .other 2 (.t 7) (.c (.int .i64 0))),o_ 4 (.asg (.t 8))] false [4]) (.ret)
def zky:ACode:=.seq (.reg 0 [o_ 4 (.asg (.c (.bool false)))] false [0,1]) (zkz)
def zgS:AFun:={ nt:=9,res:=[.t 4],code:=(zky) }
def zgI:ACode:=.cond (.t 9) (.seq (.reg 0 [o_ 10 (.mov (.t 0)),o_ 4 (.asg (.t 10)),o_ 5 (.asg (.c (.bool false)))] false [4,5]) (.ret)) (.skip)
def zgH:ACode:=.seq (.reg 0 [o_ 11 (.mov (.t 0)),o_ 12 (.mov (.t 0)),o_ 13 (.lenS 39 (.t 12)),o_ 14 (.mov (.t 1)),o_ 15 (.lenS 39 (.t 14)),o_ 16 (.bin .sub .other 2 (.t 13) (.t 15)),o_ 17 (.slcS 39 (.t 11) none (some (.t 16))),o_ 4 (.asg (.t 17)),o_ 5 (.asg (.c (.bool true)))] false [4,5]) (.ret)
def zgG:ACode:=.seq (.seq (.reg 0 [o_ 6 (.mov (.t 0)),o_ 7 (.mov (.t 1)),o_ 8 (.callp 102 [.t 6,.t 7]),o_ 9 (.un .not (.t 8))] false [0,1,9]) (zgI)) (zgH)
def zgF:ACode:=.seq (.reg 0 [o_ 4 (.asg (.c (.str b156_))),o_ 5 (.asg (.c (.bool false)))] false [0,1]) (zgG)
def zeO:AFun:={ nt:=18,res:=[.t 4,.t 5],code:=(zgF) }
def zgg:ACode:=.cond (.t 7) (.seq (.reg 0 [o_ 8 (.mov (.t 0)),o_ 9 (.mov (.t 0)),o_ 10 (.lenS 39 (.t 9)),o_ 11 (.mov (.t 1)),o_ 12 (.lenS 39 (.t 11)),o_ 13 (.bin .sub .other 2 (.t 10) (.t 12)),o_ 14 (.slcS 39 (.t 8) none (some (.t 13))),o_ 4 (.asg (.t 14))] false [4]) (.ret)) (.skip)
def zgf:ACode:=.seq (.reg 0 [o_ 15 (.mov (.t 0)),o_ 4 (.asg (.t 15))] false [4]) (.ret)
def zge:ACode:=.seq (.seq (.reg 0 [o_ 5 (.mov (.t 0)),o_ 6 (.mov (.t 1)),o_ 7 (.callp 102 [.t 5,.t 6])] false [0,1,7]) (zgg)) (zgf)
def zgd:ACode:=.seq (.reg 0 [o_ 4 (.asg (.c (.str b156_)))] false [0,1]) (zge)
def zev:AFun:={ nt:=16,res:=[.t 4],code:=(zgd) }
def zgC:ACode:=.seq (.reg 0 [o_ 5 (.mov (.t 0)),o_ 6 (.lenS 39 (.t 5)),o_ 7 (.mov (.t 1)),o_ 8 (.lenS 39 (.t 7)),o_ 9 (.bin .geq .other 2 (.t 6) (.t 8)),o_ 10 (.mov (.t 9)),p_ 11 (.mov (.t 0)) 5 10 true,p_ 12 (.mov (.t 0)) 5 10 true,p_ 13 (.lenS 39 (.t 12)) 5 10 true,p_ 14 (.mov (.t 1)) 5 10 true,p_ 15 (.lenS 39 (.t 14)) 5 10 true,p_ 16 (.bin .sub .other 2 (.t 13) (.t 15)) 5 10 true,p_ 17 (.slcS 39 (.t 11) (some (.t 16)) none) 5 10 true,p_ 18 (.mov (.t 1)) 5 10 true,p_ 19 (.bin .eql .other 39 (.t 17) (.t 18)) 5 10 true,o_ 20 (.pick (.t 10) (.t 19) (.c (.bool false))),o_ 4 (.asg (.t 20))] false [4]) (.ret)
def zgB:ACode:=.seq (.reg 0 [o_ 4 (.asg (.c (.bool false)))] false [0,1]) (zgC)
def zeM:AFun:={ nt:=21,res:=[.t 4],code:=(zgB) }
def zgE:ACode:=.seq (.reg 0 [o_ 5 (.mov (.t 0)),o_ 6 (.lenS 39 (.t 5)),o_ 7 (.mov (.t 1)),o_ 8 (.lenS 39 (.t 7)),o_ 9 (.bin .geq .other 2 (.t 6) (.t 8)),o_ 10 (.mov (.t 9)),p_ 11 (.mov (.t 0)) 5 10 true,p_ 12 (.mov (.t 1)) 5 10 true,p_ 13 (.lenS 39 (.t 12)) 5 10 true,p_ 14 (.slcS 39 (.t 11) none (some (.t 13))) 5 10 true,p_ 15 (.mov (.t 1)) 5 10 true,p_ 16 (.bin .eql .other 39 (.t 14) (.t 15)) 5 10 true,o_ 17 (.pick (.t 10) (.t 16) (.c (.bool false))),o_ 4 (.asg (.t 17))] false [4]) (.ret)
def zgD:ACode:=.seq (.reg 0 [o_ 4 (.asg (.c (.bool false)))] false [0,1]) (zgE)
def zeN:AFun:={ nt:=18,res:=[.t 4],code:=(zgD) }
def zlC:ACode:=.cond (.t 12) (.seq (.reg 0 [o_ 13 (.mov (.t 0)),o_ 14 (.mov (.t 7)),o_ 15 (.slcS 39 (.t 13) none (some (.t 14))),o_ 16 (.mov (.t 0)),o_ 17 (.mov (.t 7)),o_ 18 (.mov (.t 1)),o_ 19 (.lenS 39 (.t 18)),o_ 20 (.bin .add .other 2 (.t 17) (.t 19)),o_ 21 (.slcS 39 (.t 16) (some (.t 20)) none),o_ 4 (.asg (.t 15)),o_ 5 (.asg (.t 21)),o_ 6 (.asg (.c (.bool true)))] true [4,5,6]) (.ret)) (.skip)
def zlB:ACode:=.seq (.reg 0 [o_ 11 (.mov (.t 7)),o_ 12 (.bin .geq .other 2 (.t 11) (.c (.int .i64 0)))] false [0,1,7,12]) (zlC)
def zlA:ACode:=.seq (.reg 0 [o_ 22 (.mov (.t 0)),o_ 4 (.asg (.t 22)),o_ 5 (.asg (.c (.str b156_))),o_ 6 (.asg (.c (.bool false)))] false [4,5,6]) (.ret)
def zlz:ACode:=.seq (.seq (.reg 0 [o_ 8 (.mov (.t 0)),o_ 9 (.mov (.t 1)),o_ 10 (.callp 106 [.t 8,.t 9]),o_ 7 (.asg (.t 10))] false [0,1,7]) (zlB)) (zlA)
def zly:ACode:=.seq (.reg 0 [o_ 4 (.asg (.c (.str b156_))),o_ 5 (.asg (.c (.str b156_))),o_ 6 (.asg (.c (.bool false)))] false [0,1]) (zlz)
def zit:AFun:={ nt:=23,res:=[.t 4,.t 5,.t 6],code:=(zly) }
def zmJ:ACode:=.seq (.reg 0 [o_ 5 (.mov (.t 0)),o_ 6 (.mov (.t 1)),o_ 7 (.callp 106 [.t 5,.t 6]),o_ 4 (.asg (.t 7))] false [4]) (.ret)
def zmI:ACode:=.seq (.reg 0 [o_ 4 (.asg (.c (.int .i64 0)))] false [0,1]) (zmJ)
def zkx:AFun:={ nt:=8,res:=[.t 4],code:=(zmI) }
end Go.Proofs.YtablleokoifolaaGreatDoor
set_option maxRecDepth 100000
namespace Go.Proofs.YtablleokoifolaaGreatDoor
open Go
def tyL:List Nat:=[30,41,3,63,58,34,66,5,44,69,55,67,4,59,71,37,73,33,35,75,36,77,38,61,79,39,81,2,22,23,24,25,26,27,28,84,54,86,88,9,90,92,94,96,99,104,111,116,113,120,64,60,126,155,129,109,20,148,21,153,139,203,213,154]
def fnL:List Nat:=[3,9,10,11,12,13,14,15,16,17,4,18,5,6,7,8,19,20,21,22,23,25,26,27,28,29,30,31,32,24,33,34,35,36,38,37,39,40,41,42,43,44,45,46,47,48,49,50,51,56,57,58,60,59,61,63,64,65,66,67,68,69,70,71,55,72,75,76,62,77,78,79,80,81,83,82,84,85,86,87,88,89,90,91,92,93,94,95,97,98,99,100,101,102,96,103,104,105,106,107,108,109,110,111,112,113,114,115,119,117,118,120,52,53]
def errV:Value:=.iface 170 (.agg #[.pointer (some ⟨2,44,none⟩)])
noncomputable def E:Env:={ P:=Tryz.prog,ty:=fun i => tyL.getD (i % 100000) 0,fn:=fun i => fnL.getD i 0,gb:=2,gok:=gokE errV,gkeep:=gokE_keep errV }
def bodyOf (f:Func):Code:=match f.body with | some c => c | none => .skip
theorem mixed:E.P.follows .mixedOrders=true:=by kernel_rfl
theorem zmj:Fn E 14 zgU 2:=⟨Tryz.f7,bodyOf Tryz.f7,Tryz.func7,by kernel_rfl,by kernel_rfl,by kernel_rfl,by decide,by kernel_rfl,by kernel_rfl,⟨by kernel_rfl,by kernel_rfl,mixed⟩⟩
theorem zmw:Fn E 1 ziv 1:=⟨Tryz.f9,bodyOf Tryz.f9,Tryz.func9,by kernel_rfl,by kernel_rfl,by kernel_rfl,by decide,by kernel_rfl,by kernel_rfl,⟨by kernel_rfl,by kernel_rfl,mixed⟩⟩
theorem ztE:Fn E 2 zor 0:=⟨Tryz.f10,bodyOf Tryz.f10,Tryz.func10,by kernel_rfl,by kernel_rfl,by kernel_rfl,by decide,by kernel_rfl,by kernel_rfl,⟨by kernel_rfl,by kernel_rfl,mixed⟩⟩
theorem zmi:Fn E 3 zgT 1:=⟨Tryz.f11,bodyOf Tryz.f11,Tryz.func11,by kernel_rfl,by kernel_rfl,by kernel_rfl,by decide,by kernel_rfl,by kernel_rfl,⟨by kernel_rfl,by kernel_rfl,mixed⟩⟩
theorem zmb:Fn E 4 ziY 1:=⟨Tryz.f12,bodyOf Tryz.f12,Tryz.func12,by kernel_rfl,by kernel_rfl,by kernel_rfl,by decide,by kernel_rfl,by kernel_rfl,⟨by kernel_rfl,by kernel_rfl,mixed⟩⟩
theorem zmt:Fn E 6 zkw 2:=⟨Tryz.f14,bodyOf Tryz.f14,Tryz.func14,by kernel_rfl,by kernel_rfl,by kernel_rfl,by decide,by kernel_rfl,by kernel_rfl,⟨by kernel_rfl,by kernel_rfl,mixed⟩⟩
theorem zrc:Fn E 7 zmc 2:=⟨Tryz.f15,bodyOf Tryz.f15,Tryz.func15,by kernel_rfl,by kernel_rfl,by kernel_rfl,by decide,by kernel_rfl,by kernel_rfl,⟨by kernel_rfl,by kernel_rfl,mixed⟩⟩
theorem zuG:Fn E 9 zsn 1:=⟨Tryz.f17,bodyOf Tryz.f17,Tryz.func17,by kernel_rfl,by kernel_rfl,by kernel_rfl,by decide,by kernel_rfl,by kernel_rfl,⟨by kernel_rfl,by kernel_rfl,mixed⟩⟩
theorem zmv:Fn E 16 ziu 3:=⟨Tryz.f19,bodyOf Tryz.f19,Tryz.func19,by kernel_rfl,by kernel_rfl,by kernel_rfl,by decide,by kernel_rfl,by kernel_rfl,⟨by kernel_rfl,by kernel_rfl,mixed⟩⟩
theorem zsy:Fn E 17 zmN 1:=⟨Tryz.f20,bodyOf Tryz.f20,Tryz.func20,by kernel_rfl,by kernel_rfl,by kernel_rfl,by decide,by kernel_rfl,by kernel_rfl,⟨by kernel_rfl,by kernel_rfl,mixed⟩⟩
theorem ztF:Fn E 18 zos 1:=⟨Tryz.f21,bodyOf Tryz.f21,Tryz.func21,by kernel_rfl,by kernel_rfl,by kernel_rfl,by decide,by kernel_rfl,by kernel_rfl,⟨by kernel_rfl,by kernel_rfl,mixed⟩⟩
theorem zuF:Fn E 19 zsm 1:=⟨Tryz.f22,bodyOf Tryz.f22,Tryz.func22,by kernel_rfl,by kernel_rfl,by kernel_rfl,by decide,by kernel_rfl,by kernel_rfl,⟨by kernel_rfl,by kernel_rfl,mixed⟩⟩
theorem zje:Fn E 20 zgc 1:=⟨Tryz.f23,bodyOf Tryz.f23,Tryz.func23,by kernel_rfl,by kernel_rfl,by kernel_rfl,by decide,by kernel_rfl,by kernel_rfl,⟨by kernel_rfl,by kernel_rfl,mixed⟩⟩
theorem zgL:Fn E 29 zeX 2:=⟨Tryz.f24,bodyOf Tryz.f24,Tryz.func24,by kernel_rfl,by kernel_rfl,by kernel_rfl,by decide,by kernel_rfl,by kernel_rfl,⟨by kernel_rfl,by kernel_rfl,mixed⟩⟩
theorem zaR:Fn E 21 zaF 2:=⟨Tryz.f25,bodyOf Tryz.f25,Tryz.func25,by kernel_rfl,by kernel_rfl,by kernel_rfl,by decide,by kernel_rfl,by kernel_rfl,⟨by kernel_rfl,by kernel_rfl,mixed⟩⟩
theorem zlY:Fn E 22 ziC 1:=⟨Tryz.f26,bodyOf Tryz.f26,Tryz.func26,by kernel_rfl,by kernel_rfl,by kernel_rfl,by decide,by kernel_rfl,by kernel_rfl,⟨by kernel_rfl,by kernel_rfl,mixed⟩⟩
theorem zma:Fn E 24 ziX 2:=⟨Tryz.f28,bodyOf Tryz.f28,Tryz.func28,by kernel_rfl,by kernel_rfl,by kernel_rfl,by decide,by kernel_rfl,by kernel_rfl,⟨by kernel_rfl,by kernel_rfl,mixed⟩⟩
theorem zaT:Fn E 30 zaJ 2:=⟨Tryz.f33,bodyOf Tryz.f33,Tryz.func33,by kernel_rfl,by kernel_rfl,by kernel_rfl,by decide,by kernel_rfl,by kernel_rfl,⟨by kernel_rfl,by kernel_rfl,mixed⟩⟩
theorem zlZ:Fn E 31 ziD 1:=⟨Tryz.f34,bodyOf Tryz.f34,Tryz.func34,by kernel_rfl,by kernel_rfl,by kernel_rfl,by decide,by kernel_rfl,by kernel_rfl,⟨by kernel_rfl,by kernel_rfl,mixed⟩⟩
theorem zkp:Fn E 32 zhu 1:=⟨Tryz.f35,bodyOf Tryz.f35,Tryz.func35,by kernel_rfl,by kernel_rfl,by kernel_rfl,by decide,by kernel_rfl,by kernel_rfl,⟨by kernel_rfl,by kernel_rfl,mixed⟩⟩
theorem zlX:Fn E 33 ziB 2:=⟨Tryz.f36,bodyOf Tryz.f36,Tryz.func36,by kernel_rfl,by kernel_rfl,by kernel_rfl,by decide,by kernel_rfl,by kernel_rfl,⟨by kernel_rfl,by kernel_rfl,mixed⟩⟩
theorem zbV:Fn E 35 zbh 2:=⟨Tryz.f37,bodyOf Tryz.f37,Tryz.func37,by kernel_rfl,by kernel_rfl,by kernel_rfl,by decide,by kernel_rfl,by kernel_rfl,⟨by kernel_rfl,by kernel_rfl,mixed⟩⟩
theorem zjb:Fn E 34 zfs 2:=⟨Tryz.f38,bodyOf Tryz.f38,Tryz.func38,by kernel_rfl,by kernel_rfl,by kernel_rfl,by decide,by kernel_rfl,by kernel_rfl,⟨by kernel_rfl,by kernel_rfl,mixed⟩⟩
theorem zhv:Fn E 36 zee 1:=⟨Tryz.f39,bodyOf Tryz.f39,Tryz.func39,by kernel_rfl,by kernel_rfl,by kernel_rfl,by decide,by kernel_rfl,by kernel_rfl,⟨by kernel_rfl,by kernel_rfl,mixed⟩⟩
theorem zbZ:Fn E 38 zby 1:=⟨Tryz.f41,bodyOf Tryz.f41,Tryz.func41,by kernel_rfl,by kernel_rfl,by kernel_rfl,by decide,by kernel_rfl,by kernel_rfl,⟨by kernel_rfl,by kernel_rfl,mixed⟩⟩
theorem zfa:Fn E 39 zdE 2:=⟨Tryz.f42,bodyOf Tryz.f42,Tryz.func42,by kernel_rfl,by kernel_rfl,by kernel_rfl,by decide,by kernel_rfl,by kernel_rfl,⟨by kernel_rfl,by kernel_rfl,mixed⟩⟩
theorem zeZ:Fn E 40 zdD 2:=⟨Tryz.f43,bodyOf Tryz.f43,Tryz.func43,by kernel_rfl,by kernel_rfl,by kernel_rfl,by decide,by kernel_rfl,by kernel_rfl,⟨by kernel_rfl,by kernel_rfl,mixed⟩⟩
theorem zjd:Fn E 49 zfu 1:=⟨Tryz.f56,bodyOf Tryz.f56,Tryz.func56,by kernel_rfl,by kernel_rfl,by kernel_rfl,by decide,by kernel_rfl,by kernel_rfl,⟨by kernel_rfl,by kernel_rfl,mixed⟩⟩
theorem zko:Fn E 50 zgY 1:=⟨Tryz.f57,bodyOf Tryz.f57,Tryz.func57,by kernel_rfl,by kernel_rfl,by kernel_rfl,by decide,by kernel_rfl,by kernel_rfl,⟨by kernel_rfl,by kernel_rfl,mixed⟩⟩
theorem zbJ:Fn E 51 zaZ 2:=⟨Tryz.f58,bodyOf Tryz.f58,Tryz.func58,by kernel_rfl,by kernel_rfl,by kernel_rfl,by decide,by kernel_rfl,by kernel_rfl,⟨by kernel_rfl,by kernel_rfl,mixed⟩⟩
theorem zbu:Fn E 53 zaS 2:=⟨Tryz.f59,bodyOf Tryz.f59,Tryz.func59,by kernel_rfl,by kernel_rfl,by kernel_rfl,by decide,by kernel_rfl,by kernel_rfl,⟨by kernel_rfl,by kernel_rfl,mixed⟩⟩
theorem zjc:Fn E 52 zft 2:=⟨Tryz.f60,bodyOf Tryz.f60,Tryz.func60,by kernel_rfl,by kernel_rfl,by kernel_rfl,by decide,by kernel_rfl,by kernel_rfl,⟨by kernel_rfl,by kernel_rfl,mixed⟩⟩
theorem zci:Fn E 54 zbG 2:=⟨Tryz.f61,bodyOf Tryz.f61,Tryz.func61,by kernel_rfl,by kernel_rfl,by kernel_rfl,by decide,by kernel_rfl,by kernel_rfl,⟨by kernel_rfl,by kernel_rfl,mixed⟩⟩
theorem zcn:Fn E 68 zbI 2:=⟨Tryz.f62,bodyOf Tryz.f62,Tryz.func62,by kernel_rfl,by kernel_rfl,by kernel_rfl,by decide,by kernel_rfl,by kernel_rfl,⟨by kernel_rfl,by kernel_rfl,mixed⟩⟩
theorem zeu:Fn E 55 zcF 2:=⟨Tryz.f63,bodyOf Tryz.f63,Tryz.func63,by kernel_rfl,by kernel_rfl,by kernel_rfl,by decide,by kernel_rfl,by kernel_rfl,⟨by kernel_rfl,by kernel_rfl,mixed⟩⟩
theorem zeI:Fn E 56 zcZ 2:=⟨Tryz.f64,bodyOf Tryz.f64,Tryz.func64,by kernel_rfl,by kernel_rfl,by kernel_rfl,by decide,by kernel_rfl,by kernel_rfl,⟨by kernel_rfl,by kernel_rfl,mixed⟩⟩
theorem ztz:Fn E 61 zom 1:=⟨Tryz.f69,bodyOf Tryz.f69,Tryz.func69,by kernel_rfl,by kernel_rfl,by kernel_rfl,by decide,by kernel_rfl,by kernel_rfl,⟨by kernel_rfl,by kernel_rfl,mixed⟩⟩
theorem ztC:Fn E 62 zop 1:=⟨Tryz.f70,bodyOf Tryz.f70,Tryz.func70,by kernel_rfl,by kernel_rfl,by kernel_rfl,by decide,by kernel_rfl,by kernel_rfl,⟨by kernel_rfl,by kernel_rfl,mixed⟩⟩
theorem zsx:Fn E 63 zmL 1:=⟨Tryz.f71,bodyOf Tryz.f71,Tryz.func71,by kernel_rfl,by kernel_rfl,by kernel_rfl,by decide,by kernel_rfl,by kernel_rfl,⟨by kernel_rfl,by kernel_rfl,mixed⟩⟩
theorem zbP:Fn E 66 zbd 2:=⟨Tryz.f75,bodyOf Tryz.f75,Tryz.func75,by kernel_rfl,by kernel_rfl,by kernel_rfl,by decide,by kernel_rfl,by kernel_rfl,⟨by kernel_rfl,by kernel_rfl,mixed⟩⟩
theorem zbH:Fn E 67 zaV 2:=⟨Tryz.f76,bodyOf Tryz.f76,Tryz.func76,by kernel_rfl,by kernel_rfl,by kernel_rfl,by decide,by kernel_rfl,by kernel_rfl,⟨by kernel_rfl,by kernel_rfl,mixed⟩⟩
theorem zeS:Fn E 69 zdh 1:=⟨Tryz.f77,bodyOf Tryz.f77,Tryz.func77,by kernel_rfl,by kernel_rfl,by kernel_rfl,by decide,by kernel_rfl,by kernel_rfl,⟨by kernel_rfl,by kernel_rfl,mixed⟩⟩
theorem zeU:Fn E 70 zdj 4:=⟨Tryz.f78,bodyOf Tryz.f78,Tryz.func78,by kernel_rfl,by kernel_rfl,by kernel_rfl,by decide,by kernel_rfl,by kernel_rfl,⟨by kernel_rfl,by kernel_rfl,mixed⟩⟩
theorem zff:Fn E 71 zel 2:=⟨Tryz.f79,bodyOf Tryz.f79,Tryz.func79,by kernel_rfl,by kernel_rfl,by kernel_rfl,by decide,by kernel_rfl,by kernel_rfl,⟨by kernel_rfl,by kernel_rfl,mixed⟩⟩
theorem zeT:Fn E 72 zdi 2:=⟨Tryz.f80,bodyOf Tryz.f80,Tryz.func80,by kernel_rfl,by kernel_rfl,by kernel_rfl,by decide,by kernel_rfl,by kernel_rfl,⟨by kernel_rfl,by kernel_rfl,mixed⟩⟩
theorem zeP:Fn E 73 zde 2:=⟨Tryz.f81,bodyOf Tryz.f81,Tryz.func81,by kernel_rfl,by kernel_rfl,by kernel_rfl,by decide,by kernel_rfl,by kernel_rfl,⟨by kernel_rfl,by kernel_rfl,mixed⟩⟩
theorem zfb:Fn E 75 zdF 2:=⟨Tryz.f82,bodyOf Tryz.f82,Tryz.func82,by kernel_rfl,by kernel_rfl,by kernel_rfl,by decide,by kernel_rfl,by kernel_rfl,⟨by kernel_rfl,by kernel_rfl,mixed⟩⟩
theorem zdP:Fn E 74 zcx 2:=⟨Tryz.f83,bodyOf Tryz.f83,Tryz.func83,by kernel_rfl,by kernel_rfl,by kernel_rfl,by decide,by kernel_rfl,by kernel_rfl,⟨by kernel_rfl,by kernel_rfl,mixed⟩⟩
theorem zfe:Fn E 76 zek 2:=⟨Tryz.f84,bodyOf Tryz.f84,Tryz.func84,by kernel_rfl,by kernel_rfl,by kernel_rfl,by decide,by kernel_rfl,by kernel_rfl,⟨by kernel_rfl,by kernel_rfl,mixed⟩⟩
theorem zeR:Fn E 77 zdg 2:=⟨Tryz.f85,bodyOf Tryz.f85,Tryz.func85,by kernel_rfl,by kernel_rfl,by kernel_rfl,by decide,by kernel_rfl,by kernel_rfl,⟨by kernel_rfl,by kernel_rfl,mixed⟩⟩
theorem zeJ:Fn E 78 zda 2:=⟨Tryz.f86,bodyOf Tryz.f86,Tryz.func86,by kernel_rfl,by kernel_rfl,by kernel_rfl,by decide,by kernel_rfl,by kernel_rfl,⟨by kernel_rfl,by kernel_rfl,mixed⟩⟩
theorem zeQ:Fn E 79 zdf 2:=⟨Tryz.f87,bodyOf Tryz.f87,Tryz.func87,by kernel_rfl,by kernel_rfl,by kernel_rfl,by decide,by kernel_rfl,by kernel_rfl,⟨by kernel_rfl,by kernel_rfl,mixed⟩⟩
theorem ztA:Fn E 80 zon 1:=⟨Tryz.f88,bodyOf Tryz.f88,Tryz.func88,by kernel_rfl,by kernel_rfl,by kernel_rfl,by decide,by kernel_rfl,by kernel_rfl,⟨by kernel_rfl,by kernel_rfl,mixed⟩⟩
theorem ztB:Fn E 81 zoo 1:=⟨Tryz.f89,bodyOf Tryz.f89,Tryz.func89,by kernel_rfl,by kernel_rfl,by kernel_rfl,by decide,by kernel_rfl,by kernel_rfl,⟨by kernel_rfl,by kernel_rfl,mixed⟩⟩
theorem zuC:Fn E 82 zrp 2:=⟨Tryz.f90,bodyOf Tryz.f90,Tryz.func90,by kernel_rfl,by kernel_rfl,by kernel_rfl,by decide,by kernel_rfl,by kernel_rfl,⟨by kernel_rfl,by kernel_rfl,mixed⟩⟩
theorem ztD:Fn E 83 zoq 1:=⟨Tryz.f91,bodyOf Tryz.f91,Tryz.func91,by kernel_rfl,by kernel_rfl,by kernel_rfl,by decide,by kernel_rfl,by kernel_rfl,⟨by kernel_rfl,by kernel_rfl,mixed⟩⟩
theorem zvk:Fn E 85 ztm 1:=⟨Tryz.f93,bodyOf Tryz.f93,Tryz.func93,by kernel_rfl,by kernel_rfl,by kernel_rfl,by decide,by kernel_rfl,by kernel_rfl,⟨by kernel_rfl,by kernel_rfl,mixed⟩⟩
theorem zuE:Fn E 86 zsg 1:=⟨Tryz.f94,bodyOf Tryz.f94,Tryz.func94,by kernel_rfl,by kernel_rfl,by kernel_rfl,by decide,by kernel_rfl,by kernel_rfl,⟨by kernel_rfl,by kernel_rfl,mixed⟩⟩
theorem zvl:Fn E 87 ztn 1:=⟨Tryz.f95,bodyOf Tryz.f95,Tryz.func95,by kernel_rfl,by kernel_rfl,by kernel_rfl,by decide,by kernel_rfl,by kernel_rfl,⟨by kernel_rfl,by kernel_rfl,mixed⟩⟩
theorem zre:Fn E 88 zoe 1:=⟨Tryz.f97,bodyOf Tryz.f97,Tryz.func97,by kernel_rfl,by kernel_rfl,by kernel_rfl,by decide,by kernel_rfl,by kernel_rfl,⟨by kernel_rfl,by kernel_rfl,mixed⟩⟩
theorem zwk:Fn E 89 zuQ 1:=⟨Tryz.f98,bodyOf Tryz.f98,Tryz.func98,by kernel_rfl,by kernel_rfl,by kernel_rfl,by decide,by kernel_rfl,by kernel_rfl,⟨by kernel_rfl,by kernel_rfl,mixed⟩⟩
theorem zrd:Fn E 90 zmd 1:=⟨Tryz.f99,bodyOf Tryz.f99,Tryz.func99,by kernel_rfl,by kernel_rfl,by kernel_rfl,by decide,by kernel_rfl,by kernel_rfl,⟨by kernel_rfl,by kernel_rfl,mixed⟩⟩
theorem zlt:Fn E 91 zgj 2:=⟨Tryz.f100,bodyOf Tryz.f100,Tryz.func100,by kernel_rfl,by kernel_rfl,by kernel_rfl,by decide,by kernel_rfl,by kernel_rfl,⟨by kernel_rfl,by kernel_rfl,mixed⟩⟩
theorem zkq:Fn E 92 zfh 2:=⟨Tryz.f101,bodyOf Tryz.f101,Tryz.func101,by kernel_rfl,by kernel_rfl,by kernel_rfl,by decide,by kernel_rfl,by kernel_rfl,⟨by kernel_rfl,by kernel_rfl,mixed⟩⟩
theorem zlr:Fn E 93 zgh 2:=⟨Tryz.f102,bodyOf Tryz.f102,Tryz.func102,by kernel_rfl,by kernel_rfl,by kernel_rfl,by decide,by kernel_rfl,by kernel_rfl,⟨by kernel_rfl,by kernel_rfl,mixed⟩⟩
theorem zuD:Fn E 96 zsd 0:=⟨Tryz.f104,bodyOf Tryz.f104,Tryz.func104,by kernel_rfl,by kernel_rfl,by kernel_rfl,by decide,by kernel_rfl,by kernel_rfl,⟨by kernel_rfl,by kernel_rfl,mixed⟩⟩
theorem zls:Fn E 97 zgi 2:=⟨Tryz.f105,bodyOf Tryz.f105,Tryz.func105,by kernel_rfl,by kernel_rfl,by kernel_rfl,by decide,by kernel_rfl,by kernel_rfl,⟨by kernel_rfl,by kernel_rfl,mixed⟩⟩
theorem zsw:Fn E 98 zmK 2:=⟨Tryz.f106,bodyOf Tryz.f106,Tryz.func106,by kernel_rfl,by kernel_rfl,by kernel_rfl,by decide,by kernel_rfl,by kernel_rfl,⟨by kernel_rfl,by kernel_rfl,mixed⟩⟩
theorem zmh:Fn E 99 zgS 2:=⟨Tryz.f107,bodyOf Tryz.f107,Tryz.func107,by kernel_rfl,by kernel_rfl,by kernel_rfl,by decide,by kernel_rfl,by kernel_rfl,⟨by kernel_rfl,by kernel_rfl,mixed⟩⟩
theorem zhy:Fn E 100 zeO 2:=⟨Tryz.f108,bodyOf Tryz.f108,Tryz.func108,by kernel_rfl,by kernel_rfl,by kernel_rfl,by decide,by kernel_rfl,by kernel_rfl,⟨by kernel_rfl,by kernel_rfl,mixed⟩⟩
theorem zgV:Fn E 101 zev 2:=⟨Tryz.f109,bodyOf Tryz.f109,Tryz.func109,by kernel_rfl,by kernel_rfl,by kernel_rfl,by decide,by kernel_rfl,by kernel_rfl,⟨by kernel_rfl,by kernel_rfl,mixed⟩⟩
theorem zhw:Fn E 102 zeM 2:=⟨Tryz.f110,bodyOf Tryz.f110,Tryz.func110,by kernel_rfl,by kernel_rfl,by kernel_rfl,by decide,by kernel_rfl,by kernel_rfl,⟨by kernel_rfl,by kernel_rfl,mixed⟩⟩
theorem zhx:Fn E 103 zeN 2:=⟨Tryz.f111,bodyOf Tryz.f111,Tryz.func111,by kernel_rfl,by kernel_rfl,by kernel_rfl,by decide,by kernel_rfl,by kernel_rfl,⟨by kernel_rfl,by kernel_rfl,mixed⟩⟩
theorem zmu:Fn E 104 zit 2:=⟨Tryz.f112,bodyOf Tryz.f112,Tryz.func112,by kernel_rfl,by kernel_rfl,by kernel_rfl,by decide,by kernel_rfl,by kernel_rfl,⟨by kernel_rfl,by kernel_rfl,mixed⟩⟩
theorem zot:Fn E 105 zkx 2:=⟨Tryz.f113,bodyOf Tryz.f113,Tryz.func113,by kernel_rfl,by kernel_rfl,by kernel_rfl,by decide,by kernel_rfl,by kernel_rfl,⟨by kernel_rfl,by kernel_rfl,mixed⟩⟩
end Go.Proofs.YtablleokoifolaaGreatDoor
set_option linter.unusedVariables false
set_option linter.unusedSimpArgs false
namespace Go.Proofs.YtablleokoifolaaGreatDoor
open Go
variable {E:Env} {nt:Nat}
abbrev HL:=List (Nat×Option AObj)
abbrev CP:=Nat→List AV→Option AV
abbrev CS:=Nat→List AV→HL→Nat→Option (AV×HL×Nat)
def hm:HL→Hp
 | [],_ => none
 | (k,o) :: l,i => if i=k then o else hm l i
structure Sx where
 t:List (Nat×AV)
 h:HL
 n:Nat
def Sx.st (s:Sx):St:=⟨tm s.t,hm s.h,s.n⟩
def putL (d:Option Nat) (t:List (Nat×AV)) (v:AV):List (Nat×AV):=match d with
 | some d => (d,v) :: t
 | none => t
theorem putL_eq (d:Option Nat) (t:List (Nat×AV)) (v:AV):putT d (tm t) v=tm (putL d t v):=by
 cases d with
 | none => rfl
 | some d => funext i; simp [putT,putL,upd,tm]
def xtkeys (base:Nat) (t:Nat→AV):XOp→List Nat
 | .appZ k .. => [base+k]
 | .mkmap k _ => [base+k]
 | .mset _ m _ _ => match evX t m with
  | .map κ => [κ]
  | _ => []
 | _ => []
def tkeys (base:Nat) (t:Nat→AV):AOp→List Nat
 | .x o => xtkeys base t o
 | .alloc k _ _ => [base+k]
 | .box k _ _ => [base+k]
 | .bslice k _ _ _ _ => [base+k]
 | .appN k _ _ _ _ _ => [base+k]
 | .store _ _ a _ => match evX t a with
  | .ptr κ _ _ => [κ]
  | _ => []
 | .app k _ _ _ s _ => match evX t s with
  | .sl κ _ _ => [base+k,κ]
  | _ => [base+k]
 | _ => []
def hnext (ks:List Nat) (h':Hp) (hl:HL):HL:=ks.map (fun k => (k,h' k))++hl
theorem zxA {ks:List Nat} {h':Hp} {hl:HL} (hf:∀ κ,κ ∉ ks→h' κ=hm hl κ):hm (hnext ks h' hl)=h':=by
 funext κ
 unfold hnext
 have key:∀ l:List Nat,(∀ κ',κ' ∉ ks→h' κ'=hm hl κ')→(κ∈l∨κ ∉ ks)→hm (l.map (fun k => (k,h' k))++hl) κ=h' κ:=by
  intro l hf
  induction l with
  | nil => intro h; rcases h with h | h; (cases h); exact (hf κ h).symm
  | cons a l ih => 
   intro h
   simp only [List.map_cons,List.cons_append,hm]
   split
   ·rename_i e; rw [e]
   ·rename_i e
    refine ih ?_
    rcases h with h | h
    ·rcases List.mem_cons.1 h with h | h
     ·exact absurd h e
     ·exact .inl h
    ·exact .inr h
 by_cases h:κ∈ks
 ·exact key ks hf (.inl h)
 ·exact key ks hf (.inr h)
theorem upd_ne' {α:Type} {f:Nat→α} {k κ:Nat} {x:α} (h:κ≠k):upd f k x κ=f κ:=by simp [upd,h]
theorem zww {base:Nat} {t:Nat→AV} {h h':Hp} {op:XOp} {av:AV} (hv:xval base t h op=some (av,h')) {κ:Nat} (hk:κ ∉ xtkeys base t op):h' κ=h κ:=by
 cases op <;> simp only [xval,xtkeys] at hv hk
 ·split at hv <;> first | (cases hv; done) | (simp only [Option.some.injEq,Prod.mk.injEq] at hv; obtain ⟨_,rfl⟩:=hv; rfl)
 ·split at hv
  ·split at hv
   ·split at hv
    ·simp only [Option.some.injEq,Prod.mk.injEq] at hv; obtain ⟨_,rfl⟩:=hv; rfl
    ·simp only [Option.some.injEq,Prod.mk.injEq] at hv; obtain ⟨_,rfl⟩:=hv; exact upd_ne' (by simpa using hk)
   ·cases hv
  ·cases hv
 ·simp only [Option.some.injEq,Prod.mk.injEq] at hv; obtain ⟨_,rfl⟩:=hv; exact upd_ne' (by simpa using hk)
 ·(repeat' split at hv) <;> first | (cases hv; done) | (simp only [Option.some.injEq,Prod.mk.injEq] at hv; obtain ⟨_,rfl⟩:=hv; rfl)
 ·split at hv
  ·rename_i κ' s hm hs
   rw [hm] at hk
   (repeat' split at hv) <;> first | (cases hv; done) | (simp only [Option.some.injEq,Prod.mk.injEq] at hv; obtain ⟨_,rfl⟩:=hv; exact upd_ne' (by simpa using hk))
  ·cases hv
 ·cases hv
theorem zxe {base:Nat} {t:Nat→AV} {h h':Hp} {op:AOp} {av:AV} (hv:aval base t h op=some (av,h')) {κ:Nat} (hk:κ ∉ tkeys base t op):h' κ=h κ:=by
 cases op <;> simp only [aval,tkeys] at hv hk
 case x o => exact zww hv hk
 case alloc => simp only [Option.some.injEq,Prod.mk.injEq] at hv; obtain ⟨_,rfl⟩:=hv; exact upd_ne' (by simpa using hk)
 case bslice => obtain ⟨v,_,hv⟩:=Option.map_eq_some_iff.1 hv; simp only [Prod.mk.injEq] at hv; obtain ⟨_,rfl⟩:=hv; exact upd_ne' (by simpa using hk)
 case box k c x => 
  unfold bval at hv
  split at hv
  ·simp only [Option.some.injEq,Prod.mk.injEq] at hv; obtain ⟨_,rfl⟩:=hv; exact upd_ne' (by simpa using hk)
  ·cases hv
 case store c n a x => 
  obtain ⟨v,hv',e⟩:=Option.map_eq_some_iff.1 hv
  simp only [Prod.mk.injEq] at e
  obtain ⟨_,rfl⟩:=e
  clear hv
  rename astore h n (evX t a) (evX t x)=some v => hv
  unfold astore at hv
  split at hv
  ·rename_i κ' i o hp
   rw [hp] at hk
   split at hv
   ·split at hv
    ·obtain rfl:=Option.some.inj hv; exact upd_ne' (by simpa using hk)
    ·cases hv
   ·cases hv
  ·cases hv
 case app k c esz bytes s x => 
  unfold aapp at hv
  split at hv
  ·cases hv
  ·split at hv
   ·rename_i hs; rw [hs] at hk
    split at hv
    ·split at hv
     ·simp only [Option.some.injEq,Prod.mk.injEq] at hv; obtain ⟨_,rfl⟩:=hv; rfl
     ·simp only [Option.some.injEq,Prod.mk.injEq] at hv; obtain ⟨_,rfl⟩:=hv; exact upd_ne' (by simpa using hk)
    ·cases hv
   ·rename_i hs; rw [hs] at hk
    split at hv
    ·split at hv
     ·simp only [Option.some.injEq,Prod.mk.injEq] at hv; obtain ⟨_,rfl⟩:=hv
      simp only [List.mem_cons,List.not_mem_nil,or_false,not_or] at hk
      rw [upd_ne' hk.1,upd_ne' hk.2]
     ·cases hv
    ·cases hv
   ·cases hv
 case appN k c esz bytes s x => 
  split at hv
  ·unfold aapp at hv
   split at hv
   ·cases hv
   ·simp only at hv
    split at hv
    ·split at hv
     ·simp only [Option.some.injEq,Prod.mk.injEq] at hv; obtain ⟨_,rfl⟩:=hv; rfl
     ·simp only [Option.some.injEq,Prod.mk.injEq] at hv; obtain ⟨_,rfl⟩:=hv; exact upd_ne' (by simpa using hk)
    ·cases hv
  ·cases hv
 all_goals first
  | (cases hv; done)
  | (simp only [Option.some.injEq,Prod.mk.injEq] at hv; obtain ⟨_,rfl⟩:=hv; rfl)
  | (obtain ⟨v,_,hv⟩:=Option.map_eq_some_iff.1 hv; simp only [Prod.mk.injEq] at hv; obtain ⟨_,rfl⟩:=hv; rfl)
  | ((repeat' split at hv) <;> first | (cases hv; done) | (simp only [Option.some.injEq,Prod.mk.injEq] at hv; obtain ⟨_,rfl⟩:=hv; rfl) | (obtain ⟨v,_,hv⟩:=Option.map_eq_some_iff.1 hv; simp only [Prod.mk.injEq] at hv; obtain ⟨_,rfl⟩:=hv; rfl))
def roL (ks:List Nat) (h:HL):HL:=if ks.isEmpty then h else h.map fun p => (p.1,if p.1∈ks then p.2.map setRo else p.2)
theorem roL_eq (ks:List Nat) (h:HL):hm (roL ks h)=roAll ks (hm h):=by
 funext κ
 unfold roL
 split
 ·rename_i he
  have:ks=[]:=by simpa using he
  subst this; simp [roAll]
 ·induction h with
  | nil => simp [hm,roAll]
  | cons p l ih => 
   obtain ⟨k,o⟩:=p
   simp only [List.map_cons,hm,roAll]
   split
   ·rename_i e; subst e; rfl
   ·rw [ih]; rfl
def pruneL (live:List Nat) (t:List (Nat×AV)):List (Nat×AV):=live.map fun i => (i,tm t i)
theorem pruneL_eq (live:List Nat) (t:List (Nat×AV)):tm (pruneL live t)=prune live (tm t):=rfl
def dedup (seen:List Nat):HL→HL
 | [] => []
 | (k,o) :: l => if seen.contains k then dedup seen l else match o with
  | none => dedup (k :: seen) l
  | some o => (k,some o) :: dedup (k :: seen) l
theorem zqT {κ:Nat}:∀ (l:HL) (seen:List Nat),hm (dedup seen l) κ=if κ∈seen then none else hm l κ
 | [],seen => by simp [dedup,hm]
 | (k,o) :: l,seen => by
  simp only [dedup,hm]
  by_cases hs:seen.contains k=true
  ·rw [if_pos hs,zqT l seen]
   have:k∈seen:=by simpa using hs
   by_cases hk:κ=k
   ·subst hk; simp [this]
   ·simp [hk]
  ·rw [if_neg hs]
   have hs':k ∉ seen:=by simpa using hs
   cases o with
   | none => 
    simp only
    rw [zqT l (k :: seen)]
    by_cases hk:κ=k
    ·subst hk; simp
    ·simp [hk]
   | some o => 
    simp only [hm]
    rw [zqT l (k :: seen)]
    by_cases hk:κ=k
    ·subst hk; simp [hs']
    ·simp [hk]
theorem dedup0 (l:HL):hm (dedup [] l)=hm l:=by funext κ; rw [zqT]; simp
def kltB (base:Nat):AV→Bool
 | .ptr κ _ _ => decide (κ<base)
 | .sl κ _ _ => decide (κ<base)
 | _ => true
abbrev WL:=List (Nat×Nat×Nat)
def WL.p (l:WL) (κ i q:Nat):Prop:=(κ,i,q)∈l
def outB (l:WL) (n:Nat):AV→Bool
 | .ptr κ i o => l.all fun c => !(c.1==κ&&(c.2.1==i&&(decide (o≤c.2.2)&&decide (c.2.2<o+n))))
 | _ => true
def inB (base:Nat) (l:WL) (n:Nat):AV→Bool
 | .ptr κ i o => decide (κ<base)&&(List.range n).all fun d => l.contains (κ,i,o+d)
 | _ => false
theorem outB_ok {l:WL} {n:Nat} {v:AV} (h:outB l n v=true):cellsOut l.p n v:=by
 cases v <;> simp only [cellsOut] <;> try trivial
 intro q h1 h2 h3
 have:=List.all_eq_true.1 h _ h3
 simp [h1,h2] at this
theorem inB_ok {base:Nat} {l:WL} {n:Nat} {v:AV} (h:inB base l n v=true):cellsIn base l.p n v:=by
 cases v <;> simp only [inB,Bool.false_eq_true] at h
 rename_i κ i o
 simp only [Bool.and_eq_true,decide_eq_true_eq] at h
 refine ⟨h.1,fun q h1 h2 => ?_⟩
 have:=List.all_eq_true.1 h.2 (q - o) (List.mem_range.2 (by omega))
 rw [show o+(q - o)=q by omega] at this
 simpa [WL.p] using this
def rdB (base:Nat) (l:WL) (t:Nat→AV):AOp→Bool
 | .load c _ n a => kltB base (evX t a)&&(!far c||outB l n (evX t a))
 | .store c n a _ => !far c||inB base l n (evX t a)
 | .iaddr _ _ s _ => kltB base (evX t s)
 | .slc _ _ x _ _ => kltB base (evX t x)
 | .appN _ _ _ _ _ x => kltB base (evX t x)
 | _ => true
theorem kltB_ok {base:Nat} {v:AV} (h:kltB base v=true):klt base v:=by
 cases v <;> simp_all [kltB,klt]
theorem rdB_ok {base:Nat} {l:WL} {t:Nat→AV} {op:AOp} (h:rdB base l t op=true):rdOk base l.p t op:=by
 cases op <;> simp only [rdB,rdOk] at h ⊢ <;> first | exact kltB_ok h | trivial | skip
 ·simp only [Bool.and_eq_true,Bool.or_eq_true,Bool.not_eq_true'] at h
  refine ⟨kltB_ok h.1,fun hf => ?_⟩
  rcases h.2 with h | h
  ·rw [hf] at h; cases h
  ·exact outB_ok h
 ·simp only [Bool.or_eq_true,Bool.not_eq_true'] at h
  intro hf
  rcases h with h | h
  ·rw [hf] at h; cases h
  ·exact inB_ok h
def x1 (cp:CP) (cs:CS) (dr:Bool) (base:Nat) (l:WL) (o:AOper) (s:Sx):Option Sx:=
 match wantA o.guard (tm s.t) with
 | none => none
 | some false => some ⟨putL o.dst s.t .hole,s.h,s.n⟩
 | some true => 
  match o.op with
  | .callp f args => 
   match frzL (hm s.h) (args.map (evX (tm s.t))) with
   | none => none
   | some asx => match cp f asx with
    | none => none
    | some r => if dr&&!(frzKL (hm s.h) (args.map (evX (tm s.t)))).isEmpty then none else
      some ⟨putL o.dst s.t r,roL (frzKL (hm s.h) (args.map (evX (tm s.t)))) s.h,s.n⟩
  | .callv g args => 
   match evX (tm s.t) g with
   | .func f caps => 
    match frzL (hm s.h) (args.map (evX (tm s.t))++caps) with
    | none => none
    | some asx => match cp f asx with
     | none => none
     | some r => if dr&&!(frzKL (hm s.h) (args.map (evX (tm s.t))++caps)).isEmpty then none else
       some ⟨putL o.dst s.t r,roL (frzKL (hm s.h) (args.map (evX (tm s.t))++caps)) s.h,s.n⟩
   | _ => none
  | .calls f args => 
   if dr then none else
   match cs f (args.map (evX (tm s.t))) s.h s.n with
   | none => none
   | some (r,h',n') => some ⟨putL o.dst s.t r,h',n'⟩
  | .bslv _ _ zs n ps => 
   match afillE zs.length (List.replicate n zs) (ps.map fun p => (p.1,evX (tm s.t) p.2)) with
   | none => none
   | some es => if es.all (fun c => c.all kf0) then some ⟨putL o.dst s.t (.slv (es.map fun c => c.map nz)),s.h,s.n⟩ else none
  | op => 
   match aval base (tm s.t) (hm s.h) op with
   | none => none
   | some (av,h') => if dr&&!rdB base l (tm s.t) op then none else some ⟨putL o.dst s.t av,hnext (tkeys base (tm s.t) op) h' s.h,s.n⟩
def xL (cp:CP) (cs:CS) (dr:Bool) (base:Nat) (l:WL):List AOper→Sx→Option Sx
 | [],s => some s
 | o :: r,s => match x1 cp cs dr base l o s with
  | none => none
  | some s' => xL cp cs dr base l r s'
def xW (cp:CP) (cs:CS) (base:Nat):List AOper→Sx→WL
 | [],s => []
 | o :: r,s => match x1 cp cs false base [] o s with
  | none => []
  | some s' => (match o.op with
   | .store c n a _ => if far c then (match evX (tm s.t) a with
    | .ptr κ i o => (List.range n).map fun d => (κ,i,o+d)
    | _ => []) else []
   | _ => [])++xW cp cs base r s'
def regW (cp:CP) (cs:CS) (dr:Bool) (base:Nat) (ops:List AOper) (s:Sx):WL:=
 if dr&&ops.any (fun o => farStore o.op) then xW cp cs base ops s else []
def xC (cp:CP) (cs:CS):Nat→ACode→Sx→Option (AExit×Sx)
 | 0,_,_ => none
 | m+1,c,s => match c with
  | .skip => some (.normal,s)
  | .ret => some (.ret,s)
  | .exit i => some (.exit i,s)
  | .reg res ops dr live => match xL cp cs dr s.n (regW cp cs dr s.n ops ⟨s.t,s.h,s.n+res⟩) ops ⟨s.t,s.h,s.n+res⟩ with
   | none => none
   | some s' => some (.normal,⟨pruneL live s'.t,dedup [] s'.h,s'.n⟩)
  | .seq a b => match xC cp cs m a s with
   | none => none
   | some (.normal,s') => xC cp cs m b s'
   | some (.ret,s') => some (.ret,s')
   | some (.exit i,s') => some (.exit i,s')
  | .cond x a b => match evX (tm s.t) x with
   | .bool true => xC cp cs m a s
   | .bool false => xC cp cs m b s
   | _ => none
  | .block i a => match xC cp cs m a s with
   | none => none
   | some (.normal,s') => some (.normal,s')
   | some (.ret,s') => some (.ret,s')
   | some (.exit j,s') => if j=i then some (.normal,s') else some (.exit j,s')
  | .fz sl a => if sl.all (fun i => (frz (hm s.h) FZ (tm s.t i)).isSome) then
    xC cp cs m a ⟨(sl.map fun i => (i,(frz (hm s.h) FZ (tm s.t i)).getD .undef))++s.t,roL (frzKL (hm s.h) (sl.map (tm s.t))) s.h,s.n⟩ else none
  | .loop a => match xC cp cs m a s with
   | none => none
   | some (.normal,s') => xC cp cs m (.loop a) s'
   | some (.ret,s') => some (.ret,s')
   | some (.exit i,s') => some (.exit i,s')
def argL (args:List AV):List (Nat×AV):=(List.range args.length).map fun i => (i,args.getD i .undef)
structure Tab where
 fn:Nat→Option (AFun×Nat)
 orc:CP
 orcS:CP→CS→CS
def xF (T:Tab) (fuel:Nat):Nat→CP×CS
  | 0 => (fun _ _ => none,fun _ _ _ _ => none)
  | d+1 => 
    (fun f args => match T.orc f args with
      | some r => some r
      | none => match T.fn f with
        | none => none
        | some (A,np) => if np=args.length then
            match xC (xF T fuel d).1 (xF T fuel d).2 fuel A.code ⟨argL args,[],0⟩ with
            | none => none
            | some (.exit _,_) => none
            | some (_,s) => match resL (hm s.h) (tm s.t) A.res with
              | none => none
              | some v => frz (hm s.h) FZ v
          else none,
     fun f args h n => match T.orcS (xF T fuel d).1 (xF T fuel d).2 f args h n with
      | some r => some r
      | none => match T.fn f with
      | none => none
      | some (A,np) => if np=args.length then
          match xC (xF T fuel d).1 (xF T fuel d).2 fuel A.code ⟨argL args,h,n⟩ with
          | none => none
          | some (.exit _,_) => none
          | some (_,s) => match resL (hm s.h) (tm s.t) A.res with
            | none => none
            | some v => some (v,s.h,s.n)
        else none)
def CPok (E:Env) (cp:CP):Prop:=∀ f asx r,cp f asx=some r→ACallP E f asx r
def CSok (E:Env) (cs:CS):Prop:=∀ f asx h n r h' n',cs f asx h n=some (r,h',n')→ACallS E f asx (hm h) n (fun a b c => a=r∧b=hm h'∧c=n')
theorem x1_sound {cp:CP} {cs:CS} (hp:CPok E cp) (hs:CSok E cs) {dr:Bool} {base:Nat} {l:WL} {o:AOper} {s s':Sx} {K:St→Prop} (hx:x1 cp cs dr base l o s=some s') (k:K s'.st):AW1 E dr base l.p o K s.st:=by
 unfold x1 at hx
 unfold AW1
 simp only [Sx.st] at k ⊢
 cases hw:wantA o.guard (tm s.t) with
 | none => rw [hw] at hx; cases hx
 | some b => 
  rw [hw] at hx
  cases b with
  | false => simp only at hx ⊢; obtain rfl:=Option.some.inj hx; rw [putL_eq]; exact k
  | true => 
   simp only at hx ⊢
   cases ho:o.op with
   | callp f args => 
    simp only [ho] at hx ⊢
    split at hx
    ·cases hx
    ·rename_i asx has
     split at hx
     ·cases hx
     ·rename_i r hr
      split at hx
      ·cases hx
      ·rename_i hd
       obtain rfl:=Option.some.inj hx
       simp only [roL_eq,← putL_eq] at k
       exact ⟨asx,r,has,hp _ _ _ hr,fun e => by subst e; simpa using hd,k⟩
   | callv g args => 
    simp only [ho] at hx ⊢
    split at hx
    ·rename_i f caps hg
     split at hx
     ·cases hx
     ·rename_i asx has
      split at hx
      ·cases hx
      ·rename_i r hr
       split at hx
       ·cases hx
       ·rename_i hd
        obtain rfl:=Option.some.inj hx
        simp only [roL_eq,← putL_eq] at k
        exact ⟨f,caps,asx,r,hg,has,hp _ _ _ hr,fun e => by subst e; simpa using hd,k⟩
    ·cases hx
   | calls f args => 
    simp only [ho] at hx ⊢
    split at hx
    ·cases hx
    ·rename_i hd
     split at hx
     ·cases hx
     ·rename_i r h' n' hr
      obtain rfl:=Option.some.inj hx
      simp only [← putL_eq] at k
      exact ⟨by simpa using hd,_,hs _ _ _ _ _ _ _ hr,fun a b c ⟨e1,e2,e3⟩ => by subst e1 e2 e3; exact k⟩
   | bslv q c zs m ps => 
    simp only [ho] at hx ⊢
    split at hx
    ·cases hx
    ·rename_i es hes
     split at hx
     ·rename_i hk
      obtain rfl:=Option.some.inj hx
      simp only [← putL_eq] at k
      exact ⟨es,hes,hk,k⟩
     ·cases hx
   | _ => 
    simp only [ho] at hx ⊢
    split at hx
    ·cases hx
    ·rename_i av h' hav
     split at hx
     ·cases hx
     ·rename_i hd
      obtain rfl:=Option.some.inj hx
      simp only [← putL_eq,zxA (fun κ hk => zxe hav hk)] at k
      exact ⟨av,h',hav,fun e => rdB_ok (by subst e; simpa using hd),k⟩
theorem xL_sound {cp:CP} {cs:CS} (hp:CPok E cp) (hs:CSok E cs) {dr:Bool} {base:Nat} {l:WL} {K:St→Prop}:∀ (ops:List AOper) (s s':Sx),xL cp cs dr base l ops s=some s'→K s'.st→AWL E dr base l.p ops K s.st
 | [],s,s',hx,k => by obtain rfl:=Option.some.inj hx; exact k
 | o :: r,s,s',hx,k => by
  simp only [xL] at hx
  split at hx
  ·cases hx
  ·rename_i s1 h1
   exact x1_sound hp hs h1 (xL_sound hp hs r s1 s' hx k)
theorem xC_sound {cp:CP} {cs:CS} (hp:CPok E cp) (hs:CSok E cs):∀ (m:Nat) (c:ACode) (Q:AExit→St→Prop) (s:Sx) (e:AExit) (s':Sx),xC cp cs m c s=some (e,s')→Q e s'.st→AW E nt c Q s.st:=by
 intro m
 induction m using Nat.strongRecOn with
 | _ m ihs => 
  intro c Q s e s' hx k
  cases m with
  | zero => cases hx
  | succ m => 
  have ih:=ihs m (Nat.lt_succ_self m)
  cases c with
  | skip => simp only [xC,Option.some.injEq,Prod.mk.injEq] at hx; obtain ⟨rfl,rfl⟩:=hx; exact .skip k
  | ret => simp only [xC,Option.some.injEq,Prod.mk.injEq] at hx; obtain ⟨rfl,rfl⟩:=hx; exact .ret k
  | exit i => simp only [xC,Option.some.injEq,Prod.mk.injEq] at hx; obtain ⟨rfl,rfl⟩:=hx; exact .exit k
  | reg res ops dr live => 
   simp only [xC] at hx
   split at hx
   ·cases hx
   ·rename_i s1 h1
    simp only [Option.some.injEq,Prod.mk.injEq] at hx
    obtain ⟨rfl,rfl⟩:=hx
    refine .reg _ (xL_sound hp hs ops ⟨s.t,s.h,s.n+res⟩ s1 h1 ?_)
    simp only [Sx.st,pruneL_eq,dedup0] at k ⊢
    exact k
  | seq a b => 
   simp only [xC] at hx
   split at hx
   ·cases hx
   ·rename_i s1 h1; exact .seq (ih _ _ _ _ _ h1 (ih _ _ _ _ _ hx k))
   ·rename_i s1 h1; simp only [Option.some.injEq,Prod.mk.injEq] at hx; obtain ⟨rfl,rfl⟩:=hx; exact .seq (ih _ _ _ _ _ h1 k)
   ·rename_i i s1 h1; simp only [Option.some.injEq,Prod.mk.injEq] at hx; obtain ⟨rfl,rfl⟩:=hx; exact .seq (ih _ _ _ _ _ h1 k)
  | cond x a b => 
   simp only [xC] at hx
   split at hx
   ·rename_i hb; exact .cond hb (fun _ => ih _ _ _ _ _ hx k) (fun h => by cases h)
   ·rename_i hb; exact .cond hb (fun h => by cases h) (fun _ => ih _ _ _ _ _ hx k)
   ·cases hx
  | block i a => 
   simp only [xC] at hx
   split at hx
   ·cases hx
   ·rename_i s1 h1; simp only [Option.some.injEq,Prod.mk.injEq] at hx; obtain ⟨rfl,rfl⟩:=hx; exact .block (ih _ _ _ _ _ h1 k)
   ·rename_i s1 h1; simp only [Option.some.injEq,Prod.mk.injEq] at hx; obtain ⟨rfl,rfl⟩:=hx; exact .block (ih _ _ _ _ _ h1 k)
   ·rename_i j s1 h1
    refine .block (ih _ _ _ _ _ h1 ?_)
    simp only [blockQ]
    split at hx
    ·rename_i hj; simp only [Option.some.injEq,Prod.mk.injEq] at hx; obtain ⟨rfl,rfl⟩:=hx; rw [if_pos hj]; exact k
    ·rename_i hj; simp only [Option.some.injEq,Prod.mk.injEq] at hx; obtain ⟨rfl,rfl⟩:=hx; rw [if_neg hj]; exact k
  | fz sl a => 
   simp only [xC] at hx
   split at hx
   ·rename_i hall
    refine AW.fz (fun i hi => List.all_eq_true.1 hall i hi) ?_
    have e0:(⟨frzT (hm s.h) sl (tm s.t),roAll (frzKL (hm s.h) (sl.map (tm s.t))) (hm s.h),s.n⟩:St) =
      Sx.st ⟨(sl.map fun i => (i,(frz (hm s.h) FZ (tm s.t i)).getD .undef))++s.t,roL (frzKL (hm s.h) (sl.map (tm s.t))) s.h,s.n⟩:=by
     simp only [Sx.st,roL_eq,St.mk.injEq,true_and,and_true]
     funext i
     have key:∀ l:List Nat,tm ((l.map fun i => (i,(frz (hm s.h) FZ (tm s.t i)).getD .undef))++s.t) i=if i∈l then (frz (hm s.h) FZ (tm s.t i)).getD .undef else tm s.t i:=by
      intro l
      induction l with
      | nil => simp
      | cons b l ih => 
       simp only [List.map_cons,List.cons_append,tm,ih,List.mem_cons]
       by_cases hb:i=b
       ·subst hb; simp
       ·simp [hb]
     rw [key]; rfl
    have:=ih _ _ _ _ _ hx k
    rw [← e0] at this
    exact this
   ·cases hx
  | loop a => 
   refine AW.loop (fun q s1 => ∃ s,s1=s.st∧q≤m+1∧xC cp cs q (.loop a) s=some (e,s')) (fun q s1 ⟨s,hs1,hq,h⟩ => ?_) (m+1) s.st ⟨s,rfl,Nat.le_refl _,hx⟩
   subst hs1
   cases q with
   | zero => cases h
   | succ q => 
    simp only [xC] at h
    have ih':=ihs q (by omega) a
    split at h
    ·cases h
    ·rename_i s1 h1; exact ih' _ _ _ _ h1 ⟨q,by omega,s1,rfl,by omega,h⟩
    ·rename_i s1 h1; simp only [Option.some.injEq,Prod.mk.injEq] at h; obtain ⟨rfl,rfl⟩:=h; exact ih' _ _ _ _ h1 k
    ·rename_i i s1 h1; simp only [Option.some.injEq,Prod.mk.injEq] at h; obtain ⟨rfl,rfl⟩:=h; exact ih' _ _ _ _ h1 k
theorem argL_eq (asx:List AV):tm (argL asx)=argT asx:=by
 funext i
 have key:∀ l:List Nat,tm (l.map fun i => (i,asx.getD i .undef)) i=if i∈l then asx.getD i .undef else .undef:=by
  intro l
  induction l with
  | nil => rfl
  | cons a l ih => 
   simp only [List.map_cons,tm,ih,List.mem_cons]
   by_cases h:i=a
   ·subst h; simp
   ·simp [h]
 rw [argL,key,argT]
 split
 ·rfl
 ·rename_i h
  have:¬ i<asx.length:=by simpa using h
  simp [List.getD_eq_getElem?_getD,List.getElem?_eq_none (Nat.le_of_not_lt this)]
def TabOk (E:Env) (T:Tab):Prop:=(∀ f A np,T.fn f=some (A,np)→Fn E f A np)∧CPok E T.orc∧∀ cp cs,CPok E cp→CSok E cs→CSok E (T.orcS cp cs)
theorem xF_sound {T:Tab} (hT:TabOk E T) (fuel:Nat):∀ d,CPok E (xF T fuel d).1∧CSok E (xF T fuel d).2:=by
 intro d
 induction d with
 | zero => exact ⟨fun f asx r h => (by cases h),fun f asx h n r h' n' hx => (by cases hx)⟩
 | succ d ih => 
  constructor
  ·intro f asx r hx
   simp only [xF] at hx
   split at hx
   ·rename_i r' hr; obtain rfl:=Option.some.inj hx; exact hT.2.1 _ _ _ hr
   ·split at hx
    ·cases hx
    ·rename_i A np hA
     split at hx
     ·rename_i hn
      subst hn
      refine ztJ (hT.1 _ _ _ hA) ?_
      have e0:(⟨argT asx,fun _ => none,0⟩:St)=Sx.st ⟨argL asx,[],0⟩:=by rw [Sx.st,argL_eq]; rfl
      rw [e0]
      split at hx
      ·cases hx
      ·cases hx
      ·rename_i e s hne h1
       split at hx
       ·cases hx
       ·rename_i v hv
        refine xC_sound ih.1 ih.2 _ _ _ _ _ _ h1 ?_
        cases e with
        | exit i => exact absurd rfl (hne i)
        | normal => exact ⟨v,hv,hx⟩
        | ret => exact ⟨v,hv,hx⟩
     ·cases hx
  ·intro f asx h n r h' n' hx
   simp only [xF] at hx
   split at hx
   ·rename_i r0 hr
    obtain rfl:=Option.some.inj hx
    exact hT.2.2 _ _ ih.1 ih.2 _ _ _ _ _ _ _ hr
   ·split at hx
    ·cases hx
    rename_i A np hA
    split at hx
    ·rename_i hn
     subst hn
     refine ztI (hT.1 _ _ _ hA) ?_
     have e0:(⟨argT asx,hm h,n⟩:St)=Sx.st ⟨argL asx,h,n⟩:=by rw [Sx.st,argL_eq]
     rw [e0]
     split at hx
     ·cases hx
     ·cases hx
     ·rename_i e s hne h1
      split at hx
      ·cases hx
      ·rename_i v hv
       simp only [Option.some.injEq,Prod.mk.injEq] at hx
       obtain ⟨rfl,rfl,rfl⟩:=hx
       refine xC_sound ih.1 ih.2 _ _ _ _ _ _ h1 ?_
       cases e with
       | exit i => exact absurd rfl (hne i)
       | normal => exact ⟨v,hv,rfl,rfl,rfl⟩
       | ret => exact ⟨v,hv,rfl,rfl,rfl⟩
    ·cases hx
end Go.Proofs.YtablleokoifolaaGreatDoor
