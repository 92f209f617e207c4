/- Part 6 of the proof that ValidBodiesUptoCardSaid: for every input that fits the row the law answers true and its arguments read as before, over the world as the row lays it. -/
import Derived.Test.YtablleokoifolaaGreatDoorZ5
import Derived.Deep.Slices
import Derived.ChangeShapes
import Derived.RowKit
import Derived.ChangeSame
import Derived.Test.YtablleokoifolaaGreatDoorCards
import Derived.Test.YtablleokoifolaaGreatDoorTie
import Derived.WideShapes
import Derived.LaidLaws
import Derived.LaidHandle
import Derived.OpenShut
import Derived.Deep.DeepHandedRow
import Derived.FnData
import Derived.Test.YtablleokoifolaaGreatDoorRows
set_option linter.unusedVariables false
set_option linter.unusedSimpArgs false
set_option maxRecDepth 100000
namespace Go.Proofs.YtablleokoifolaaGreatDoor
open Go
def K2 (x:Int):Prop:=x=126∨x=127
def K3 (x:Int):Prop:=x=0∨x=126∨x=127
theorem Vk.of3 {s:St8} {x:Int} (h:K3 x):Vk s x x:=fun _ => by
 rcases h with rfl | rfl | rfl
 ·exact ⟨rfl,.inl rfl⟩
 ·exact ⟨rfl,.inr (.inl rfl)⟩
 ·exact ⟨rfl,.inr (.inr (.inl rfl))⟩
theorem Vk.of2 {s:St8} {x:Int} (h:K2 x):Vk s x x:=Vk.of3 (.inr h)
theorem Vk.any {s:St8}:Vk s 1 255:=fun _ => ⟨rfl,.inr (.inr (.inr rfl))⟩
theorem okT_CC {Γ:Ctx} {l:List Int} {aw dd:Bool} {mo:Int} {bd:Bool} (g:Gd Γ l.length):okT (CC Γ l aw dd mo bd):=by
 have hf:=g.fr; have hu:=g.un
 have e1:(CC Γ l aw dd mo bd).frames.length=Γ.fr.length+1:=by simp [CC]
 have e2:(CC Γ l aw dd mo bd).stack.length=Γ.un.length+l.length:=by simp [CC]
 have e3:(CC Γ l aw dd mo bd).frames.getD (Γ.fr.length+1 - 1) default=Frame.mk (Γ.un.length:Int) aw dd:=by
  have:=CC_top Γ l aw dd mo bd
  rw [Int.toNat_natCast] at this
  exact this
 unfold okT
 rw [e1,e2,e3]
 refine ⟨by omega,by omega,by omega,?_,?_⟩
 ·show (0:Int)≤(Γ.un.length:Int); omega
 ·show ((Γ.un.length:Nat):Int)≤_; omega
theorem BadV.ok {Γ:Ctx} {N:Nat} {c:Checker} (g:Gd Γ N) (h:BadV Γ N c):okT c:=by
 obtain ⟨l,aw,dd,mo,h1,rfl⟩:=h
 exact okT_CC (g.mono h1)
theorem Sim.okT {Γ:Ctx} {N:Nat} {c:Checker} {s:St8} (g:Gd Γ N) (h:Sim Γ N c s):okT c:=by
 rcases h with ⟨l,aw,dd,mo,h1,h2,rfl,rfl⟩ | ⟨h,_⟩
 ·exact okT_CC (g.mono (by simpa using h2))
 ·exact h.ok g
theorem takesB {Γ:Ctx} {N:Nat} (g:Gd Γ N) (ps:List Int):∀ {c:Checker},BadV Γ N c→BadV Γ N (ps.foldl takeT c):=by
 induction ps with
 | nil => intro c h; exact h
 | cons p ps ih => 
  intro c h
  obtain ⟨v,c',e,hb⟩:=takeB g h p
  have:takeT c p=c':=by unfold takeT; rw [e]; rfl
  rw [List.foldl_cons,this]
  exact ih hb
theorem callB {Γ:Ctx} {N:Nat} (g:Gd Γ N) {c:Checker} (h:BadV Γ N c) (t:Typ) (ht:t.params.length<4611686018427387904):∃ c',zat c t=some c'∧BadV Γ (N+1) c':=by
 unfold zat zbR
 rw [zaC ⟨h.ok g,ht⟩,Option.bind_some]
 obtain ⟨c',e,hb⟩:=layB g (takesB g t.params.reverse h) t.result
 rw [e]
 exact ⟨c',rfl,hb⟩
theorem zyr {Γ:Ctx} {N:Nat} (g:Gd Γ N) (t:Typ) (ht:∀ p∈t.params,K2 p) (hs:t.params.length<1000000000):∀ (i k:Nat) (c:Checker) (s:St8),i≤t.params.length→i<k→Sim Γ N c s →
  ∃ s',zce k t s ((i:Int) - 1)=some s'∧Sim Γ N ((t.params.take i).reverse.foldl takeT c) s':=by
 intro i
 induction i with
 | zero => 
  intro k c s _ hk h
  cases k with
  | zero => omega
  | succ k => exact ⟨s,rfl,h⟩
 | succ i ih => 
  intro k c s hi hk h
  cases k with
  | zero => omega
  | succ k => 
   simp only [zce]
   have e0:(((i+1:Nat):Int) - 1)=(i:Int):=by omega
   have hm:K2 (t.params.getD (i:Int).toNat default):=ht _ (getD_mem t.params i (by omega))
   rw [e0,if_pos (by simp),zaC (by omega)]
   obtain ⟨v,c',v',s',e1,e2,h',_⟩:=zbI g h (Vk.of2 hm)
   rw [e2,Option.bind_some]
   obtain ⟨s'',e3,h''⟩:=ih k c' s' (by omega) (by omega) h'
   rw [wI_small (by omega) (by omega)]
   refine ⟨s'',e3,?_⟩
   have e4:takeT c (t.params.getD (i:Int).toNat default)=c':=by unfold takeT; rw [e1]; rfl
   have e5:(t.params.take (i+1)).reverse=t.params.getD (i:Int).toNat default :: (t.params.take i).reverse:=by
    rw [← takeS t.params i (by omega),List.reverse_append]; rfl
   rw [e5,List.foldl_cons,e4]
   exact h''
def TOk (P:Nat) (t:Typ):Prop:=(∀ p∈t.params,K2 p)∧K3 t.result∧t.params.length<P
theorem zwu {Γ:Ctx} {N P K:Nat} {c:Checker} {s:St8} (g:Gd Γ N) (h:Sim Γ N c s) {t:Typ} (ht:TOk P t) (hP:P<1000000000) (hK:P<K) :
  ∃ c' s',zat c t=some c'∧zbG K s t=some s'∧Sim Γ (N+1) c' s':=by
 obtain ⟨h1,h2,h3⟩:=ht
 unfold zat zbR zbG
 rw [zaC ⟨h.okT g,by omega⟩,Option.bind_some,wI_small (by omega) (by omega)]
 obtain ⟨s',e,h'⟩:=zyr g t h1 (by omega) t.params.length K c s (Nat.le_refl _) (by omega) h
 rw [e,Option.bind_some]
 rw [List.take_length] at h'
 obtain ⟨c2,s2,e1,e2,h''⟩:=zld g h' (Vk.of3 h2)
 rw [e1,e2]
 exact ⟨c2,s2,rfl,rfl,h''⟩
theorem zAQ {k:Nat} {c:Checker} (h:c.bad=true) (L:List Instr):zal (k+2) c L=some c:=by
 simp only [zal,lpN]
 split
 ·rename_i hl
  have hl':=of_decide_eq_true hl
  rw [zaC ⟨Int.le_refl 0,hl'⟩]
 ·rfl
theorem zAa {k:Nat} {e:Env8} {s:St8} (h:s.ok=false) (L:List Instr):zaB (k+2) e s L=some s:=by
 simp only [zaB,lpN]
 rw [h,Bool.and_false,if_neg (by decide)]
 rfl
def Ctx.sub (Γ:Ctx) (l:List Int) (aw dd:Bool) (lab:Int):Ctx:=⟨Γ.m,Γ.t,Γ.ls,Γ.un++l,Γ.fr++[Frame.mk (Γ.un.length:Int) aw dd],Γ.lb++[lab]⟩
def popC (x6:Checker) (p2:Int):Option Checker:=
 (zac x6 p2).bind fun x8 => gd (0≤(wI ((x8.2.frames.length:Int) - 1))∧(wI ((x8.2.frames.length:Int) - 1))<(x8.2.frames.length:Int)) ((if x8.2.bad=true then some (Checker.mk x8.2.m x8.2.t x8.2.locals x8.2.stack x8.2.frames x8.2.labels x8.2.most true) else some (Checker.mk x8.2.m x8.2.t x8.2.locals x8.2.stack x8.2.frames x8.2.labels x8.2.most ((x8.2.stack.length:Int) != ((x8.2.frames.getD ((wI ((x8.2.frames.length:Int) - 1)).toNat) default).height)))).bind (fun j11 => gd (0≤(0:Int)∧0≤(mnI ((x8.2.frames.getD ((wI ((x8.2.frames.length:Int) - 1)).toNat) default).height) (j11.stack.length:Int))∧(mnI ((x8.2.frames.getD ((wI ((x8.2.frames.length:Int) - 1)).toNat) default).height) (j11.stack.length:Int))≤(j11.stack.length:Int)) (gd (0≤(0:Int)∧0≤(wI ((j11.frames.length:Int) - 1))∧(wI ((j11.frames.length:Int) - 1))≤(j11.frames.length:Int)) (gd (0≤(0:Int)∧0≤(wI ((j11.labels.length:Int) - 1))∧(wI ((j11.labels.length:Int) - 1))≤(j11.labels.length:Int)) (some (Checker.mk j11.m j11.t j11.locals (List.take ((mnI ((x8.2.frames.getD ((wI ((x8.2.frames.length:Int) - 1)).toNat) default).height) (j11.stack.length:Int)).toNat) j11.stack) (List.take ((wI ((j11.frames.length:Int) - 1)).toNat) j11.frames) (List.take ((wI ((j11.labels.length:Int) - 1)).toNat) j11.labels) j11.most j11.bad))))))
theorem zze {Γ:Ctx} {l:List Int} {aw dd:Bool} {mo:Int} {bd:Bool} (g:Gd Γ l.length) (k:Nat) (L:List Instr) (res lab:Int) :
  zah (k+1) (CC Γ l aw dd mo bd) L res lab=(zal k (CC (Γ.sub l aw dd lab) [] false (aw||dd) mo bd) L).bind fun x6 => popC x6 res:=by
 have hf:=g.fr; have hu:=g.un; have hb:=g.lb
 simp only [zah]
 rw [CC_fl,wB _ (by omega),zaC (by omega),CC_top]
 have e0:((CC Γ l aw dd mo bd).frames.length+1) * 16≤140737488355328:=by
  have:(CC Γ l aw dd mo bd).frames.length=Γ.fr.length+1:=by simp [CC]
  omega
 have e1:(if (Frame.mk (Γ.un.length:Int) aw dd).away=true then gd (((CC Γ l aw dd mo bd).frames.length+1) * 16≤140737488355328) (some (Checker.mk Γ.m Γ.t Γ.ls (CC Γ l aw dd mo bd).stack ((CC Γ l aw dd mo bd).frames++([(Frame.mk ((CC Γ l aw dd mo bd).stack.length:Int) false true)]:List Frame)) Γ.lb mo bd)) else gd (((CC Γ l aw dd mo bd).frames.length+1) * 16≤140737488355328) (some (Checker.mk Γ.m Γ.t Γ.ls (CC Γ l aw dd mo bd).stack ((CC Γ l aw dd mo bd).frames++([(Frame.mk ((CC Γ l aw dd mo bd).stack.length:Int) false (Frame.mk (Γ.un.length:Int) aw dd).dead)]:List Frame)) Γ.lb mo bd)))=some (Checker.mk Γ.m Γ.t Γ.ls (CC Γ l aw dd mo bd).stack ((CC Γ l aw dd mo bd).frames++([(Frame.mk ((CC Γ l aw dd mo bd).stack.length:Int) false (aw||dd))]:List Frame)) Γ.lb mo bd):=by
  rw [zaC e0,zaC e0]
  cases aw <;> rfl
 refine (congrArg (fun o => Option.bind o _) e1).trans ?_
 rw [Option.bind_some,zaC (by show (Γ.lb.length+1) * 1≤_; omega)]
 have e2:CC (Γ.sub l aw dd lab) [] false (aw||dd) mo bd=Checker.mk Γ.m Γ.t Γ.ls (CC Γ l aw dd mo bd).stack ((CC Γ l aw dd mo bd).frames++([(Frame.mk ((CC Γ l aw dd mo bd).stack.length:Int) false (aw||dd))]:List Frame)) (Γ.lb++[lab]) mo bd:=by
  simp [CC,Ctx.sub]
 rw [e2]
 rfl
theorem zAl {Γ:Ctx} {l:List Int} {aw dd:Bool} {lab:Int} {l2:List Int} {aw2 dd2:Bool} {mo2:Int} {bd2:Bool} {N:Nat} (g:Gd Γ l.length) (g2:Gd (Γ.sub l aw dd lab) l2.length) (res:Int) :
  popC (CC (Γ.sub l aw dd lab) l2 aw2 dd2 mo2 bd2) res=some (CC Γ l aw dd mo2 (tB l2 aw2 bd2 res||decide ((tL l2 res).length≠0))):=by
 have hf:=g.fr; have hu:=g.un; have hb:=g.lb
 have hf2:=g2.fr; have hu2:=g2.un; have hb2:=g2.lb
 have ht:=tL_len l2 res
 unfold popC
 rw [zwt _ _ _ _ _ _ _ g2,Option.bind_some]
 show gd (0≤(wI (((CC (Γ.sub l aw dd lab) (tL l2 res) aw2 dd2 mo2 (tB l2 aw2 bd2 res)).frames.length:Int) - 1))∧(wI (((CC (Γ.sub l aw dd lab) (tL l2 res) aw2 dd2 mo2 (tB l2 aw2 bd2 res)).frames.length:Int) - 1))<((CC (Γ.sub l aw dd lab) (tL l2 res) aw2 dd2 mo2 (tB l2 aw2 bd2 res)).frames.length:Int)) _=_
 rw [CC_fl,wB _ (by omega),zaC (by omega),CC_top]
 have hs:(CC (Γ.sub l aw dd lab) (tL l2 res) aw2 dd2 mo2 (tB l2 aw2 bd2 res)).stack.length=(Γ.sub l aw dd lab).un.length+(tL l2 res).length:=by simp [CC]
 rw [hs]
 have e1:((((Γ.sub l aw dd lab).un.length+(tL l2 res).length:Nat):Int) != (Frame.mk ((Γ.sub l aw dd lab).un.length:Int) aw2 dd2).height)=decide ((tL l2 res).length≠0):=by
  show ((((Γ.sub l aw dd lab).un.length+(tL l2 res).length:Nat):Int) != ((Γ.sub l aw dd lab).un.length:Int))=_
  by_cases h:(tL l2 res).length=0
  ·rw [h]; simp
  ·rw [decide_eq_true h]; simp; omega
 rw [e1]
 have e2:(if tB l2 aw2 bd2 res=true then some (Checker.mk Γ.m Γ.t Γ.ls (CC (Γ.sub l aw dd lab) (tL l2 res) aw2 dd2 mo2 (tB l2 aw2 bd2 res)).stack (CC (Γ.sub l aw dd lab) (tL l2 res) aw2 dd2 mo2 (tB l2 aw2 bd2 res)).frames (Γ.lb++[lab]) mo2 true) else some (Checker.mk Γ.m Γ.t Γ.ls (CC (Γ.sub l aw dd lab) (tL l2 res) aw2 dd2 mo2 (tB l2 aw2 bd2 res)).stack (CC (Γ.sub l aw dd lab) (tL l2 res) aw2 dd2 mo2 (tB l2 aw2 bd2 res)).frames (Γ.lb++[lab]) mo2 (decide ((tL l2 res).length≠0))))=some (CC (Γ.sub l aw dd lab) (tL l2 res) aw2 dd2 mo2 (tB l2 aw2 bd2 res||decide ((tL l2 res).length≠0))):=by
  cases tB l2 aw2 bd2 res <;> rfl
 refine (congrArg (fun o => Option.bind o _) e2).trans ?_
 have hs':(CC (Γ.sub l aw dd lab) (tL l2 res) aw2 dd2 mo2 (tB l2 aw2 bd2 res||decide ((tL l2 res).length≠0))).stack.length=(Γ.sub l aw dd lab).un.length+(tL l2 res).length:=by simp [CC]
 have em:mnI (Frame.mk ((Γ.sub l aw dd lab).un.length:Int) aw2 dd2).height (((Γ.sub l aw dd lab).un.length+(tL l2 res).length:Nat):Int)=((Γ.sub l aw dd lab).un.length:Int):=by
  show mnI ((Γ.sub l aw dd lab).un.length:Int) _=_
  unfold mnI; rw [if_neg (by omega)]
 have el:(CC (Γ.sub l aw dd lab) (tL l2 res) aw2 dd2 mo2 (tB l2 aw2 bd2 res||decide ((tL l2 res).length≠0))).labels=Γ.lb++[lab]:=rfl
 rw [Option.bind_some,hs',em,zaC (by omega),CC_fl,wB _ (by omega),zaC (by omega),el]
 have ell:(((Γ.lb++[lab]).length:Nat):Int)=((Γ.lb.length+1:Nat):Int):=by simp
 rw [ell,wB _ (by omega),zaC (by omega)]
 simp only [CC,Ctx.sub,Int.toNat_natCast,Option.some.injEq,Checker.mk.injEq,true_and,and_true]
 refine ⟨?_,?_,?_⟩
 ·rw [List.take_append_of_le_length (Nat.le_refl _),List.take_length]
 ·rw [List.take_append_of_le_length (Nat.le_refl _),List.take_length]
 ·rw [List.take_append_of_le_length (Nat.le_refl _),List.take_length]
theorem Gd.sub {Γ:Ctx} {N:Nat} {l:List Int} {M:Nat} {aw dd:Bool} {lab:Int} (g:Gd Γ (l.length+M)) (h1:Γ.fr.length+1<1000000000) (h2:Γ.lb.length+1<1000000000):Gd (Γ.sub l aw dd lab) M:=
 ⟨by have:=g.un; simp only [Ctx.sub,List.length_append]; omega,by simp only [Ctx.sub,List.length_append,List.length_cons,List.length_nil]; omega,by simp only [Ctx.sub,List.length_append,List.length_cons,List.length_nil]; omega⟩
theorem innerB {Γ:Ctx} {N k:Nat} (g:Gd Γ N) (hf:Γ.fr.length+1<1000000000) (hl:Γ.lb.length+1<1000000000) {c:Checker} (h:BadV Γ N c) (L:List Instr) (res lab:Int):∃ c',zah (k+3) c L res lab=some c'∧BadV Γ N c':=by
 obtain ⟨l,aw,dd,mo,h1,rfl⟩:=h
 have g1:Gd Γ (l.length+0):=g.mono (by omega)
 rw [zze (g.mono h1),zAQ (by rfl),Option.bind_some,zAl (N:=0) (g.mono h1) (g1.sub (N:=0) hf hl)]
 refine ⟨_,rfl,l,aw,dd,mo,h1,?_⟩
 have:tB [] false true res=true:=by unfold tB; split <;> rfl
 rw [this,Bool.true_or]
theorem zxH {Γ:Ctx} {l:List Int} {u:Int} {aw dd:Bool} {mo:Int} {ok:Bool} (hb:Γ.lb.length<1000000000) (k:Nat) (L:List Instr) (res lab:Int) :
  zaF (k+1) Γ.env (St8.mk l u aw dd mo ok) L res lab=(zaB k (Env8.mk Γ.m Γ.t.result Γ.ls (Γ.lb++[lab])) (St8.mk [] (wI (u+(l.length:Int))) false (aw||dd) mo ok) L).bind fun j7 => (zae j7 res).bind fun x8 => some (St8.mk l u aw dd x8.1.most (x8.1.ok&&decide (x8.1.l.length=0))):=by
 simp only [zaF]
 rw [zaC (by show Γ.lb.length * 1≤_; omega),zaC (by show (Γ.lb.length+1) * 1≤_; omega)]
 have e:∀ j7:St8,((zae j7 res).bind fun x8 => (if x8.1.ok=true then some ((x8.1.l.length:Int)==(0:Int)) else some false).bind (fun j10 => some (St8.mk l u aw dd x8.1.most j10)))=(zae j7 res).bind fun x8 => some (St8.mk l u aw dd x8.1.most (x8.1.ok&&decide (x8.1.l.length=0))):=by
  intro j7
  congr 1
  funext x8
  have:((x8.1.l.length:Int)==(0:Int))=decide (x8.1.l.length=0):=by
   by_cases h:x8.1.l.length=0
   ·rw [h]; rfl
   ·rw [decide_eq_false h]; simp; simpa using h
  rw [this]
  cases x8.1.ok <;> rfl
 have e2:(fun j7:St8 => ((zae j7 res).bind fun x8 => (if x8.1.ok=true then some ((x8.1.l.length:Int)==(0:Int)) else some false).bind (fun j10 => some (St8.mk l u aw dd x8.1.most j10))))=fun j7 => (zae j7 res).bind fun x8 => some (St8.mk l u aw dd x8.1.most (x8.1.ok&&decide (x8.1.l.length=0))):=funext e
 show ((if aw=true then ((zaB k (Env8.mk Γ.m Γ.t.result Γ.ls (Γ.lb++[lab])) (St8.mk [] (wI (u+(l.length:Int))) false true mo ok) L).bind fun x3 => some x3) else ((zaB k (Env8.mk Γ.m Γ.t.result Γ.ls (Γ.lb++[lab])) (St8.mk [] (wI (u+(l.length:Int))) false dd mo ok) L).bind fun x3 => some x3)).bind fun j7:St8 => ((zae j7 res).bind fun x8 => (if x8.1.ok=true then some ((x8.1.l.length:Int)==(0:Int)) else some false).bind (fun j10 => some (St8.mk l u aw dd x8.1.most j10))))=_
 rw [e2]
 cases aw <;> simp only [Option.bind_fun_some] <;> rfl
theorem rinnerB {Γ:Ctx} {N k:Nat} (hb:Γ.lb.length<1000000000) {s:St8} (h:BadR N s) (L:List Instr) (res lab:Int):∃ s',zaF (k+3) Γ.env s L res lab=some s'∧BadR N s':=by
 obtain ⟨l,u,aw,dd,mo,ok⟩:=s
 obtain ⟨h1,h2⟩:=h
 obtain rfl:ok=false:=h1
 rw [zxH hb,zAa (by rfl),Option.bind_some]
 obtain ⟨v,s',e,hb'⟩:=rtakeB (N:=0) (by decide) (s:=St8.mk [] (wI (u+(l.length:Int))) false (aw||dd) mo false) ⟨rfl,Nat.le_refl 0⟩ res
 rw [e,Option.bind_some]
 refine ⟨_,rfl,?_,h2⟩
 show (s'.ok&&decide (s'.l.length=0))=false
 rw [hb'.1]; rfl
theorem zlE {Γ:Ctx} {N k:Nat} {c:Checker} {s:St8} (L:List Instr) {res lab:Int} (hr:K3 res) (g:Gd Γ (N+L.length+1)) (hf:Γ.fr.length+1<1000000000) (hl:Γ.lb.length+1<1000000000)
  (ih:∀ (l:List Int) (aw dd:Bool) (c:Checker) (s:St8),l.length≤N→Sim (Γ.sub l aw dd lab) 0 c s→∃ c' s',zal (k+2) c L=some c'∧zaB (k+2) (Γ.sub l aw dd lab).env s L=some s'∧Sim (Γ.sub l aw dd lab) L.length c' s')
  (h:Sim Γ N c s):∃ c' s',zah (k+3) c L res lab=some c'∧zaF (k+3) Γ.env s L res lab=some s'∧Sim Γ N c' s':=by
 rcases h with ⟨l,aw,dd,mo,h1,h2,rfl,rfl⟩ | ⟨h1,h2⟩
 ·have gl:Gd Γ (l.map fk).length:=g.mono (by rw [List.length_map]; omega)
  have gs:Gd (Γ.sub (l.map fk) aw dd lab) L.length:=by
   have:Gd Γ ((l.map fk).length+L.length):=g.mono (by rw [List.length_map]; omega)
   exact this.sub (N:=0) hf hl
  have hu:((Γ.sub (l.map fk) aw dd lab).un.length:Int)=(Γ.un.length:Int)+(l.length:Int):=by simp [Ctx.sub]
  have hw:wI ((Γ.un.length:Int)+(l.length:Int))=((Γ.sub (l.map fk) aw dd lab).un.length:Int):=by
   have:=g.un
   rw [hu,wI_small (by omega) (by omega)]
  rw [zze gl,zxH (by omega),hw]
  have s0:Sim (Γ.sub (l.map fk) aw dd lab) 0 (CC (Γ.sub (l.map fk) aw dd lab) [] false (aw||dd) mo false) (St8.mk [] ((Γ.sub (l.map fk) aw dd lab).un.length:Int) false (aw||dd) mo true):=
   .inl ⟨[],false,aw||dd,mo,(fun x hx => by cases hx),Nat.le_refl 0,rfl,rfl⟩
  obtain ⟨c1,s1,e1,e2,h3⟩:=ih (l.map fk) aw dd _ _ (by rw [List.length_map]; exact h2) s0
  have e2':zaB (k+2) (Env8.mk Γ.m Γ.t.result Γ.ls (Γ.lb++[lab])) (St8.mk [] ((Γ.sub (l.map fk) aw dd lab).un.length:Int) false (aw||dd) mo true) L=some s1:=e2
  rw [e1,e2',Option.bind_some,Option.bind_some]
  obtain ⟨v,c2,v',s2,e3,e4,h4,_⟩:=zbI gs h3 (Vk.of3 hr)
  rw [e4,Option.bind_some]
  rcases h3 with ⟨l2,aw2,dd2,mo2,k1,k2,rfl,rfl⟩ | ⟨⟨l2,aw2,dd2,mo2,k1,rfl⟩,k2⟩
  ·have gl2:Gd (Γ.sub (l.map fk) aw dd lab) (l2.map fk).length:=gs.mono (by rw [List.length_map]; omega)
   rw [zwt _ _ _ _ _ _ _ gl2] at e3
   obtain ⟨_,rfl⟩:=Prod.mk.inj (Option.some.inj e3)
   rw [zwz _ _ _ _ _ _ _ (by have:=gs.un; omega)] at e4
   obtain ⟨rfl,_⟩:=Prod.mk.inj (Option.some.inj e4)
   rw [zAl (N:=0) gl gl2]
   refine ⟨_,_,rfl,rfl,?_⟩
   have hb:=h4.bad
   have hb':tB (l2.map fk) aw2 false res = !rB l2 aw2 true res:=hb
   have hlen:(tL (l2.map fk) res).length=(tL l2 res).length:=by
    unfold tL; split
    ·rw [List.length_map]
    ·rw [List.length_dropLast,List.length_dropLast,List.length_map]
   rw [hb',hlen]
   show Sim Γ N _ (St8.mk l (Γ.un.length:Int) aw dd mo2 (rB l2 aw2 true res&&decide ((tL l2 res).length=0)))
   cases hB:rB l2 aw2 true res with
   | false => exact .inr ⟨⟨l.map fk,aw,dd,mo2,by rw [List.length_map]; exact h2,rfl⟩,rfl,h2⟩
   | true => 
    by_cases h0:(tL l2 res).length=0
    ·rw [decide_eq_true h0,decide_eq_false (by simpa using h0)]
     exact .inl ⟨l,aw,dd,mo2,h1,h2,rfl,rfl⟩
    ·rw [decide_eq_false h0,decide_eq_true (by simpa using h0)]
     exact .inr ⟨⟨l.map fk,aw,dd,mo2,by rw [List.length_map]; exact h2,rfl⟩,rfl,h2⟩
  ·rw [zAl (N:=0) gl (gs.mono k1)]
   refine ⟨_,_,rfl,rfl,?_⟩
   have hT:tB l2 aw2 true res=true:=by
    unfold tB; split
    ·rfl
    ·split <;> rfl
   have hR:s2.ok=false:=by
    obtain ⟨v3,s3,e5,h5⟩:=rtakeB (by have:=gs.un; omega) k2 res
    rw [e5] at e4
    obtain ⟨rfl,_⟩:=Prod.mk.inj (Option.some.inj e4)
    exact h5.1
   rw [hT,Bool.true_or]
   refine .inr ⟨⟨l.map fk,aw,dd,mo2,by rw [List.length_map]; exact h2,rfl⟩,?_,h2⟩
   show (s2.ok&&_)=false
   rw [hR]; rfl
 ·obtain ⟨c',e,hb⟩:=innerB (k:=k) (g.mono (by omega)) hf hl h1 L res lab
  obtain ⟨s',e',hb'⟩:=rinnerB (Γ:=Γ) (k:=k) (by omega) h2 L res lab
  exact ⟨c',s',e,e',.inr ⟨hb,hb'⟩⟩
def opOk (i:Int):Bool:=
 match zkd i,zfW i,zke i,zfX i,zhC i,zeD i with
 | some (t,e),some (p,r,is),some (f,fe),some (f',_),some (n,_,be),some (n',_,bs) => 
  (e.isNone==is)&&(!is||((t.params==p)&&(t.result==r)&&fe.isNone&&(f==f')&&(n==n')&&(be.isNone==bs)&&decide (0≤n∧n≤8)&&p.all (fun x => x==126||x==127)&&(r==0||r==126||r==127)&&decide (p.length<10)))&&(!(decide (i<26)&&decide (4<i)&&!(decide (12≤i)&&decide (i≤17)))||!is)
 | _,_,_,_,_,_ => false
theorem allOps:(List.range 256).all (fun i => opOk (i:Int))=true:=by kernel_rfl
theorem zCf (i:Int) (h0:0≤i) (h1:i<256):opOk i=true:=by
 have:=List.all_eq_true.1 allOps i.toNat (List.mem_range.2 (by omega))
 have e:((i.toNat:Nat):Int)=i:=by omega
 rw [e] at this
 exact this
structure OpS (i:Int) (t:Typ) (is:Bool) (f n:Int) (bs:Bool):Prop where
 sg:∃ e,zkd i=some (t,e)∧e.isNone=is
 rsg:∃ p r,zfW i=some (p,r,is)∧(is=true→p=t.params∧r=t.result)
 fo:∃ f' fe,zke i=some (f',fe)∧(is=true→f'=f∧fe.isNone=true)
 rfo:∃ fe,zfX i=some (f,fe)
 by_:∃ n' sg be,zhC i=some (n',sg,be)∧(is=true→n'=n∧be.isNone=bs)
 rby:∃ sg,zeD i=some (n,sg,bs)
 tok:is=true→TOk 10 t∧0≤n∧n≤8
 low:i<26→4<i→¬ (12≤i∧i≤17)→is=false
theorem zAm (i:Int) (h0:0≤i) (h1:i<256):∃ t is f n bs,OpS i t is f n bs:=by
 have h:=zCf i h0 h1
 unfold opOk at h
 split at h
 ·rename_i t e p r is f fe f' fe' n sg be n' sg' bs q1 q2 q3 q4 q5 q6
  simp only [Bool.and_eq_true,Bool.or_eq_true,beq_iff_eq,decide_eq_true_eq,Bool.not_eq_true',Bool.and_eq_false_iff,decide_eq_false_iff_not,List.all_eq_true,Bool.not_eq_false'] at h
  obtain ⟨⟨a1,a2⟩,a3⟩:=h
  refine ⟨t,is,f',n',bs,⟨e,q1,a1⟩,⟨p,r,q2,fun hi => ?_⟩,⟨f,fe,q3,fun hi => ?_⟩,⟨fe',q4⟩,⟨n,sg,be,q5,fun hi => ?_⟩,⟨sg',q6⟩,fun hi => ?_,fun i1 i2 i3 => ?_⟩
  ·rcases a2 with a2 | a2
   ·rw [hi] at a2; cases a2
   ·exact ⟨a2.1.1.1.1.1.1.1.1.1.symm,a2.1.1.1.1.1.1.1.1.2.symm⟩
  ·rcases a2 with a2 | a2
   ·rw [hi] at a2; cases a2
   ·exact ⟨a2.1.1.1.1.1.1.2,a2.1.1.1.1.1.1.1.2⟩
  ·rcases a2 with a2 | a2
   ·rw [hi] at a2; cases a2
   ·exact ⟨a2.1.1.1.1.1.2,a2.1.1.1.1.2⟩
  ·rcases a2 with a2 | a2
   ·rw [hi] at a2; cases a2
   ·obtain ⟨⟨⟨⟨⟨⟨⟨⟨⟨b1,b2⟩,b3⟩,b4⟩,b5⟩,b6⟩,b7⟩,b8⟩,b9⟩,b10⟩:=a2
    refine ⟨⟨fun x hx => ?_,?_,by rw [b1]; exact b10⟩,by omega,by omega⟩
    ·rw [b1] at hx; exact b8 x hx
    ·rw [b2]; rcases b9 with (h | h) | h
     ·exact .inl h
     ·exact .inr (.inl h)
     ·exact .inr (.inr h)
  ·rcases a3 with a3 | a3
   ·exfalso
    rcases a3 with (h | h) | h
    ·omega
    ·omega
    ·exact i3 h
   ·exact a3
 ·cases h
structure COk (Γ:Ctx) (P:Nat):Prop where
 typ:∀ t∈Γ.m.types,TOk P t
 glo:∀ g∈Γ.m.globals,K2 g.kind
 ls:∀ x∈Γ.ls,K2 x
 lb:∀ x∈Γ.lb,K3 x
 res:K3 Γ.t.result
 P0:P<1000000000
 P1:10≤P
theorem COk.sub {Γ:Ctx} {P:Nat} (h:COk Γ P) (l:List Int) (aw dd:Bool) {lab:Int} (hl:K3 lab):COk (Γ.sub l aw dd lab) P:=
 ⟨h.typ,h.glo,h.ls,fun x hx => by
  rcases List.mem_append.1 hx with hx | hx
  ·exact h.lb x hx
  ·obtain rfl:x=lab:=by simpa using hx
   exact hl,h.res,h.P0,h.P1⟩
theorem setB_false (c:Checker):setB c false=c:=by cases c; simp [setB]
theorem setB_setB (c:Checker) (a b:Bool):setB (setB c a) b=setB c (a||b):=by cases c; simp [setB,Bool.or_assoc]
theorem setB_true (c:Checker):setB c true=Checker.mk c.m c.t c.locals c.stack c.frames c.labels c.most true:=by cases c; simp [setB]
theorem zAy (c:Checker) (b:Bool):(if c.bad=true then some (Checker.mk c.m c.t c.locals c.stack c.frames c.labels c.most true) else some (Checker.mk c.m c.t c.locals c.stack c.frames c.labels c.most b))=some (setB c b):=by
 cases c with
 | mk a1 a2 a3 a4 a5 a6 a7 bd => cases bd <;> rfl
theorem zzn (s:St8) (b:Bool) (f:Bool→Option St8):(if s.ok=true then some b else some false).bind f=f (s.ok&&b):=by
 cases s.ok <;> rfl
def inb (n:Int) (k:Nat):Prop:=0≤n∧n<(k:Int)
instance (n:Int) (k:Nat):Decidable (inb n k):=by unfold inb; infer_instance
theorem gdI {α:Type} {n:Int} {k:Nat} {e:Option α} (h:inb n k):gd (0≤n∧n<(k:Int)) e=e:=zaC h
theorem zwE (c:Checker) (n:Int):zaD c n=some (if inb n c.locals.length then c.locals.getD n.toNat default else 1,setB c (!decide (inb n c.locals.length))):=by
 unfold zaD
 by_cases h:inb n c.locals.length
 ·rw [if_pos h,decide_eq_true h,if_neg (by unfold inb at h; simp; omega),gdI h,Bool.not_true,setB_false]
 ·rw [if_neg h,decide_eq_false h,if_pos (by unfold inb at h; simp; omega),Bool.not_false,setB_true]
def gl0:Glo:=Glo.mk 1 true (Instr.mk 0 0 0 0 0 [] [] [])
theorem zxR (c:Checker) (n:Int):zaE c n=some (if inb n c.m.globals.length then c.m.globals.getD n.toNat default else gl0,setB c (!decide (inb n c.m.globals.length))):=by
 unfold zaE
 by_cases h:inb n c.m.globals.length
 ·rw [if_pos h,decide_eq_true h,if_neg (by unfold inb at h; simp; omega),gdI h,Bool.not_true,setB_false]
 ·rw [if_neg h,decide_eq_false h,if_pos (by unfold inb at h; simp; omega),Bool.not_false,setB_true]; rfl
def ty0:Typ:=Typ.mk [] 0
theorem zBi (c:Checker) (n:Int):zaU c n=some (if inb n c.m.types.length then c.m.types.getD n.toNat default else ty0,setB c (!decide (inb n c.m.types.length))):=by
 unfold zaU
 by_cases h:inb n c.m.types.length
 ·rw [if_pos h,decide_eq_true h,if_neg (by unfold inb at h; simp; omega),gdI h,Bool.not_true,setB_false]
 ·rw [if_neg h,decide_eq_false h,if_pos (by unfold inb at h; simp; omega),Bool.not_false,setB_true]; rfl
theorem zyh (n:Int) (k:Nat):zbp n (k:Int)=some (decide (inb n k)):=by
 unfold zbp inb
 by_cases h1:0≤n <;> by_cases h2:n<(k:Int) <;> simp [h1,h2]
theorem getD_memI {α:Type} [Inhabited α] {l:List α} {n:Int} (h:inb n l.length):l.getD n.toNat default∈l:=by
 have:=getD_mem l n.toNat (by unfold inb at h; omega)
 have e:((n.toNat:Nat):Int)=n:=by unfold inb at h; omega
 rw [e] at this
 exact this
theorem lbK {lb:List Int} (h:∀ x∈lb,K3 x) (n:Int):K3 (lbV lb n):=by
 unfold lbV
 split
 ·rename_i hh
  exact h _ (getD_memI (by unfold inb; omega))
 ·exact .inl rfl
theorem Sim.rl {Γ:Ctx} {N:Nat} {c:Checker} {s:St8} (h:Sim Γ N c s):s.l.length≤N:=by
 rcases h with ⟨l,aw,dd,mo,h1,h2,rfl,rfl⟩ | ⟨_,h⟩
 ·exact h2
 ·exact h.2
theorem Sim.badR {Γ:Ctx} {N:Nat} {c:Checker} {s:St8} (h:Sim Γ N c s):BadR N (St8.mk s.l s.under s.away s.dead s.most false):=⟨rfl,h.rl⟩
theorem Sim.badV {Γ:Ctx} {N:Nat} {c:Checker} {s:St8} (h:Sim Γ N c s):BadV Γ N (setB c true):=h.toBad.1
theorem Sim.fld {Γ:Ctx} {N:Nat} {c:Checker} {s:St8} (h:Sim Γ N c s):c.m=Γ.m∧c.t=Γ.t∧c.locals=Γ.ls:=by
 rcases h with ⟨l,aw,dd,mo,h1,h2,rfl,rfl⟩ | ⟨⟨l,aw,dd,mo,h1,rfl⟩,_⟩ <;> exact ⟨rfl,rfl,rfl⟩
theorem BadV.fld {Γ:Ctx} {N:Nat} {c:Checker} (h:BadV Γ N c):c.m=Γ.m∧c.t=Γ.t∧c.locals=Γ.ls:=by
 obtain ⟨l,aw,dd,mo,h1,rfl⟩:=h; exact ⟨rfl,rfl,rfl⟩
def StB (Γ:Ctx) (N:Nat) (a:Option Checker) (b:Option St8):Prop:=∃ c' s',a=some c'∧b=some s'∧Sim Γ N c' s'
theorem StB.ofB {Γ:Ctx} {N:Nat} {a:Option Checker} {b:Option St8} (h1:∃ c',a=some c'∧BadV Γ N c') (h2:∃ s',b=some s'∧BadR N s'):StB Γ N a b:=by
 obtain ⟨c',e1,h1⟩:=h1
 obtain ⟨s',e2,h2⟩:=h2
 exact ⟨c',s',e1,e2,.inr ⟨h1,h2⟩⟩
theorem zyq {Γ:Ctx} {N P:Nat} {c:Checker} {s:St8} (g:Gd Γ N) (o:COk Γ P) (h:Sim Γ N c s) (hk:s.ok=true) (x:Instr) (h1:32≤x.op) (h2:x.op≤36) :
  StB Γ (N+1) (zag c x) (zaA Γ.env s x):=by
 obtain ⟨op,n,al,of_,res,body,els,labels⟩:=x
 have f:=h.fld
 have hop:op=32∨op=33∨op=34∨op=35∨op=36:=by simp only [Instr.op] at h1 h2; omega
 obtain ⟨sl,su,sa,sd,sm,so⟩:=s
 obtain rfl:so=true:=hk
 rcases hop with rfl | rfl | rfl | rfl | rfl
 ·have e1:zag c (Instr.mk 32 n al of_ res body els labels)=(zaD c n).bind fun x11 => (zaf x11.2 x11.1).bind fun x13 => some x13:=rfl
  have e2:zaA Γ.env (St8.mk sl su sa sd sm true) (Instr.mk 32 n al of_ res body els labels)=(zbp n (Γ.ls.length:Int)).bind fun x2 => if (!x2)=true then some (St8.mk sl su sa sd sm false) else (gd (0≤n∧n<(Γ.ls.length:Int)) (some (Γ.ls.getD n.toNat default,true))).bind fun | (j4,j5) => ((zaH (St8.mk sl su sa sd sm j5) j4).bind fun x8 => some x8).bind fun j7 => some j7:=by
   unfold zaA
   simp only [Instr.op,Instr.n,Ctx.env]
   rfl
  rw [e1,e2,zwE,Option.bind_some,zyh,Option.bind_some,f.2.2]
  by_cases hi:inb n Γ.ls.length
  ·rw [if_pos hi,decide_eq_true hi,if_neg (by decide),gdI hi,Option.bind_some,Bool.not_true,setB_false]
   obtain ⟨c',s',e3,e4,h'⟩:=zld g h (Vk.of2 (o.ls _ (getD_memI hi)))
   exact ⟨c',s',by rw [e3]; rfl,by show (((zaH _ _).bind _).bind _)=_; rw [e4]; rfl,h'⟩
  ·rw [if_neg hi,decide_eq_false hi,if_pos (by decide),Bool.not_false]
   refine StB.ofB ?_ ⟨_,rfl,h.badR.mono (by omega)⟩
   obtain ⟨c',e,hb⟩:=layB g h.badV 1
   exact ⟨c',by rw [e]; rfl,hb⟩
 ·have e1:zag c (Instr.mk 33 n al of_ res body els labels)=(zaD c n).bind fun x11 => (zac x11.2 x11.1).bind fun x13 => some x13.2:=rfl
  have e2:zaA Γ.env (St8.mk sl su sa sd sm true) (Instr.mk 33 n al of_ res body els labels)=(zbp n (Γ.ls.length:Int)).bind fun x2 => if (!x2)=true then some (St8.mk sl su sa sd sm false) else (gd (0≤n∧n<(Γ.ls.length:Int)) (some (Γ.ls.getD n.toNat default,true))).bind fun | (j4,j5) => ((zae (St8.mk sl su sa sd sm j5) j4).bind fun x13 => some x13.1).bind fun j6 => some j6:=by
   unfold zaA
   simp only [Instr.op,Instr.n,Ctx.env]
   rfl
  rw [e1,e2,zwE,Option.bind_some,zyh,Option.bind_some,f.2.2]
  by_cases hi:inb n Γ.ls.length
  ·rw [if_pos hi,decide_eq_true hi,if_neg (by decide),gdI hi,Option.bind_some,Bool.not_true,setB_false]
   obtain ⟨v,c',v',s',e3,e4,h',_⟩:=zbI g h (Vk.of2 (o.ls _ (getD_memI hi)))
   exact ⟨c',s',by rw [e3]; rfl,by show (((zae _ _).bind _).bind _)=_; rw [e4]; rfl,h'.mono (by omega)⟩
  ·rw [if_neg hi,decide_eq_false hi,if_pos (by decide),Bool.not_false]
   refine StB.ofB ?_ ⟨_,rfl,h.badR.mono (by omega)⟩
   obtain ⟨v,c',e,hb⟩:=takeB g h.badV 1
   exact ⟨c',by rw [e]; rfl,hb.mono (by omega)⟩
 ·have e1:zag c (Instr.mk 34 n al of_ res body els labels)=(zaD c n).bind fun x19 => (zac x19.2 x19.1).bind fun x21 => (zaf x21.2 x19.1).bind fun x23 => some x23:=rfl
  have e2:zaA Γ.env (St8.mk sl su sa sd sm true) (Instr.mk 34 n al of_ res body els labels)=(zbp n (Γ.ls.length:Int)).bind fun x2 => if (!x2)=true then some (St8.mk sl su sa sd sm false) else (gd (0≤n∧n<(Γ.ls.length:Int)) (some (Γ.ls.getD n.toNat default,true))).bind fun | (j4,j5) => ((zae (St8.mk sl su sa sd sm j5) j4).bind fun x13 => some x13.1).bind fun j6 => ((zaH j6 j4).bind fun x8 => some x8).bind fun j7 => some j7:=by
   unfold zaA
   simp only [Instr.op,Instr.n,Ctx.env]
   rfl
  rw [e1,e2,zwE,Option.bind_some,zyh,Option.bind_some,f.2.2]
  by_cases hi:inb n Γ.ls.length
  ·rw [if_pos hi,decide_eq_true hi,if_neg (by decide),gdI hi,Option.bind_some,Bool.not_true,setB_false]
   obtain ⟨v,c',v',s',e3,e4,h',_⟩:=zbI g h (Vk.of2 (o.ls _ (getD_memI hi)))
   obtain ⟨c2,s2,e5,e6,h2⟩:=zld g h' (Vk.of2 (o.ls _ (getD_memI hi)))
   refine ⟨c2,s2,?_,?_,h2⟩
   ·rw [e3,Option.bind_some,e5]; rfl
   ·show (((zae _ _).bind _).bind _)=_
    rw [e4,Option.bind_some,Option.bind_some,e6]; rfl
  ·rw [if_neg hi,decide_eq_false hi,if_pos (by decide),Bool.not_false]
   refine StB.ofB ?_ ⟨_,rfl,h.badR.mono (by omega)⟩
   obtain ⟨v,c',e,hb⟩:=takeB g h.badV 1
   obtain ⟨c2,e',hb'⟩:=layB g hb 1
   exact ⟨c2,by rw [e,Option.bind_some,e']; rfl,hb'⟩
 ·have e1:zag c (Instr.mk 35 n al of_ res body els labels)=(zaE c n).bind fun x11 => (zaf x11.2 x11.1.kind).bind fun x13 => some x13:=rfl
  have e2:zaA Γ.env (St8.mk sl su sa sd sm true) (Instr.mk 35 n al of_ res body els labels)=(zbp n (Γ.m.globals.length:Int)).bind fun x2 => if (!x2)=true then some (St8.mk sl su sa sd sm false) else (gd (0≤n∧n<(Γ.m.globals.length:Int)) (some ((Γ.m.globals.getD n.toNat default).kind,true))).bind fun | (j4,j5) => ((zaH (St8.mk sl su sa sd sm j5) j4).bind fun x8 => some x8).bind fun j7 => some j7:=by
   unfold zaA
   simp only [Instr.op,Instr.n,Ctx.env]
   rfl
  rw [e1,e2,zxR,Option.bind_some,zyh,Option.bind_some,f.1]
  by_cases hi:inb n Γ.m.globals.length
  ·rw [if_pos hi,decide_eq_true hi,if_neg (by decide),gdI hi,Option.bind_some,Bool.not_true,setB_false]
   obtain ⟨c',s',e3,e4,h'⟩:=zld g h (Vk.of2 (o.glo _ (getD_memI hi)))
   exact ⟨c',s',by rw [e3]; rfl,by show (((zaH _ _).bind _).bind _)=_; rw [e4]; rfl,h'⟩
  ·rw [if_neg hi,decide_eq_false hi,if_pos (by decide),Bool.not_false]
   refine StB.ofB ?_ ⟨_,rfl,h.badR.mono (by omega)⟩
   obtain ⟨c',e,hb⟩:=layB g h.badV gl0.kind
   exact ⟨c',by rw [e]; rfl,hb⟩
 ·have e1:zag c (Instr.mk 36 n al of_ res body els labels)=(zaE c n).bind fun x29 => (zac (setB x29.2 (!x29.1.mut_)) x29.1.kind).bind fun x32 => some x32.2:=by
   show ((zaE c n).bind fun x29 => (if x29.2.bad=true then some (Checker.mk x29.2.m x29.2.t x29.2.locals x29.2.stack x29.2.frames x29.2.labels x29.2.most true) else some (Checker.mk x29.2.m x29.2.t x29.2.locals x29.2.stack x29.2.frames x29.2.labels x29.2.most (!x29.1.mut_))).bind (fun j31 => ((zac j31 x29.1.kind).bind fun x32 => some x32.2)))=_
   congr 1
   funext x29
   rw [zAy,Option.bind_some]
  have e2:zaA Γ.env (St8.mk sl su sa sd sm true) (Instr.mk 36 n al of_ res body els labels)=(zbp n (Γ.m.globals.length:Int)).bind fun x2 => if (!x2)=true then some (St8.mk sl su sa sd sm false) else (gd (0≤n∧n<(Γ.m.globals.length:Int)) ((gd (0≤n∧n<(Γ.m.globals.length:Int)) (some (Γ.m.globals.getD n.toNat default).mut_)).bind fun j20 => some ((Γ.m.globals.getD n.toNat default).kind,j20))).bind fun | (j4,j5) => ((zae (St8.mk sl su sa sd sm j5) j4).bind fun x13 => some x13.1).bind fun j6 => some j6:=by
   unfold zaA
   simp only [Instr.op,Instr.n,Ctx.env]
   rfl
  rw [e1,e2,zxR,Option.bind_some,zyh,Option.bind_some,f.1]
  by_cases hi:inb n Γ.m.globals.length
  ·rw [if_pos hi,decide_eq_true hi,if_neg (by decide),gdI hi,gdI hi,Option.bind_some,Option.bind_some,Bool.not_true,setB_false]
   have ha:=zjg h (!(Γ.m.globals.getD n.toNat default).mut_)
   obtain ⟨v,c',v',s',e3,e4,h',_⟩:=zbI g ha (Vk.of2 (o.glo _ (getD_memI hi)))
   refine ⟨c',s',by rw [e3]; rfl,?_,h'.mono (by omega)⟩
   rw [Bool.not_not] at e4
   show (((zae (setO (St8.mk sl su sa sd sm true) (Γ.m.globals.getD n.toNat default).mut_) _).bind _).bind _)=_
   rw [e4]; rfl
  ·rw [if_neg hi,decide_eq_false hi,if_pos (by decide),Bool.not_false]
   refine StB.ofB ?_ ⟨_,rfl,h.badR.mono (by omega)⟩
   obtain ⟨v,c',e,hb⟩:=takeB g (askB h.badV (!gl0.mut_)) gl0.kind
   exact ⟨c',by rw [e]; rfl,hb.mono (by omega)⟩
theorem zyU {Γ:Ctx} {N P K:Nat} {c:Checker} {s:St8} (g:Gd Γ N) (o:COk Γ P) (h:Sim Γ N c s) (hk:s.ok=true) (hK:P<K) (x:Instr) (k:Nat) :
  (x.op=16→StB Γ (N+1) (zab (k+1) c x) (zbS K Γ.env s x))∧(x.op=17→StB Γ (N+1) (zab (k+1) c x) (zbS K Γ.env s x)):=by
 obtain ⟨op,n,al,of_,res,body,els,labels⟩:=x
 have f:=h.fld
 have hty0:TOk P ty0:=⟨(fun p hp => by cases hp),.inl rfl,by have:=o.P1; show 0<P; omega⟩
 refine ⟨fun ho => ?_,fun ho => ?_⟩
 ·obtain rfl:op=16:=ho
  have e1:zab (k+1) c (Instr.mk 16 n al of_ res body els labels)=(zaW c n).bind fun x51 => (zat x51.2 x51.1).bind fun x53 => some x53:=by
   simp only [zab]; rfl
  have e2:zbS K Γ.env s (Instr.mk 16 n al of_ res body els labels)=(zbp n (Γ.m.funcs.length:Int)).bind fun x1 => if (!x1)=true then some (St8.mk s.l s.under s.away s.dead s.most false) else gd (0≤n∧n<(Γ.m.funcs.length:Int)) ((zbp (wI (Γ.m.funcs.getD n.toNat default).type_) (Γ.m.types.length:Int)).bind fun x4 => if (!x4)=true then some (St8.mk s.l s.under s.away s.dead s.most false) else gd (0≤wI (Γ.m.funcs.getD n.toNat default).type_∧wI (Γ.m.funcs.getD n.toNat default).type_<(Γ.m.types.length:Int)) ((zbG K s (Γ.m.types.getD (wI (Γ.m.funcs.getD n.toNat default).type_).toNat default)).bind fun x7 => some x7)):=rfl
  rw [e1,e2,zyh,Option.bind_some]
  have hB:∀ c',BadV Γ N c'→∀ t,TOk P t→∃ c'',((zat c' t).bind fun x53 => some x53)=some c''∧BadV Γ (N+1) c'':=fun c' hb t ht => by
   obtain ⟨c'',e,hb'⟩:=callB g hb t (by have:=ht.2.2; have:=o.P0; omega)
   exact ⟨c'',by rw [e]; rfl,hb'⟩
  unfold zaW
  rw [f.1]
  by_cases hi:inb n Γ.m.funcs.length
  ·have hi':=hi
   unfold inb at hi'
   rw [decide_eq_true hi,if_neg (by simp; omega),if_neg (by decide),gdI hi,gdI hi,zBi,zyh,Option.bind_some,Option.bind_some,Option.bind_some,f.1]
   by_cases hj:inb (wI (Γ.m.funcs.getD n.toNat default).type_) Γ.m.types.length
   ·rw [if_pos hj,decide_eq_true hj,if_neg (by decide),gdI hj,Bool.not_true,setB_false]
    obtain ⟨c',s',e3,e4,h'⟩:=zwu g h (o.typ _ (getD_memI hj)) o.P0 hK
    exact ⟨c',s',by rw [e3]; rfl,by rw [e4]; rfl,h'⟩
   ·rw [if_neg hj,decide_eq_false hj,if_pos (by decide),Bool.not_false]
    exact StB.ofB (hB _ h.badV _ hty0) ⟨_,rfl,h.badR.mono (by omega)⟩
  ·have hi':¬ (0≤n∧n<(Γ.m.funcs.length:Int)):=hi
   rw [decide_eq_false hi,if_pos (by simp; omega),if_pos (by decide),Option.bind_some,← f.1]
   have:=hB _ h.badV _ hty0
   rw [setB_true] at this
   exact StB.ofB this ⟨_,rfl,h.badR.mono (by omega)⟩
 ·obtain rfl:op=17:=ho
  have e1:zab (k+1) c (Instr.mk 17 n al of_ res body els labels)=(if c.bad=true then some (Checker.mk c.m c.t c.locals c.stack c.frames c.labels c.most true) else some (Checker.mk c.m c.t c.locals c.stack c.frames c.labels c.most ((c.m.tables.length:Int)==(0:Int)))).bind (fun j55 => ((zac j55 127).bind fun x56 => ((zaU x56.2 n).bind fun x58 => ((zat x58.2 x58.1).bind fun x60 => some x60)))):=by
   simp only [zab]; rfl
  have e2:zbS K Γ.env s (Instr.mk 17 n al of_ res body els labels)=(if s.ok=true then some (decide ((Γ.m.tables.length:Int)>(0:Int))) else some false).bind (fun j9 => ((zae (St8.mk s.l s.under s.away s.dead s.most j9) 127).bind fun x10 => ((zbp n (Γ.m.types.length:Int)).bind fun x12 => (if (!x12)=true then some (St8.mk x10.1.l x10.1.under x10.1.away x10.1.dead x10.1.most false) else gd (0≤n∧n<(Γ.m.types.length:Int)) ((zbG K x10.1 (Γ.m.types.getD n.toNat default)).bind fun x15 => some x15))))):=rfl
  rw [e1,e2,zAy,zzn,Option.bind_some,f.1]
  have et:((Γ.m.tables.length:Int)==(0:Int)) = !decide ((Γ.m.tables.length:Int)>(0:Int)):=by
   by_cases h0:Γ.m.tables.length=0
   ·rw [h0]; rfl
   ·rw [decide_eq_true (by omega)]; simp; simpa using h0
  rw [et]
  have ha:=zjg h (!decide ((Γ.m.tables.length:Int)>(0:Int)))
  rw [Bool.not_not] at ha
  obtain ⟨v,c',v',s',e3,e4,h',_⟩:=zbI g ha (Vk.of2 (x:=127) (.inr rfl))
  have e4':zae (St8.mk s.l s.under s.away s.dead s.most (s.ok&&decide ((Γ.m.tables.length:Int)>(0:Int)))) 127=some (s',v'):=e4
  have f':=h'.fld
  rw [e3,e4',Option.bind_some,Option.bind_some,zBi,zyh,Option.bind_some,Option.bind_some]
  show StB Γ (N+1) ((zat (setB c' (!decide (inb n c'.m.types.length))) (if inb n c'.m.types.length then c'.m.types.getD n.toNat default else ty0)).bind fun x60 => some x60) _
  rw [f'.1]
  by_cases hj:inb n Γ.m.types.length
  ·rw [if_pos hj,decide_eq_true hj,if_neg (by decide),gdI hj,Bool.not_true,setB_false]
   obtain ⟨c2,s2,e5,e6,h2⟩:=zwu g h' (o.typ _ (getD_memI hj)) o.P0 hK
   exact ⟨c2,s2,by rw [e5]; rfl,by rw [e6]; rfl,h2⟩
  ·rw [if_neg hj,decide_eq_false hj,if_pos (by decide),Bool.not_false]
   obtain ⟨c'',e,hb'⟩:=callB g h'.badV ty0 (by decide)
   exact StB.ofB ⟨c'',by rw [e]; rfl,hb'⟩ ⟨_,rfl,h'.badR.mono (by omega)⟩
theorem zBn {k:Nat} {e:Env8} {x:Instr} (hx:(x.op==(14:Int))=false) (y:Int×Bool) (b:Bool):zaX (k+1) e x y 0 b=some b:=by
 simp only [zaX]
 rw [hx,Bool.false_and,if_neg (by decide)]
theorem zCd {Γ:Ctx} {N P K:Nat} {c:Checker} {s:St8} (g:Gd Γ N) (o:COk Γ P) (h:Sim Γ N c s) (x:Instr) (k:Nat) (hx:x.op=12) :
  StB Γ (N+1) (zab (k+1) c x) (zbj (K+1) Γ.env s x):=by
 obtain ⟨op,n,al,of_,res,body,els,labels⟩:=x
 obtain rfl:op=12:=hx
 have e1:zab (k+1) c (Instr.mk 12 n al of_ res body els labels)=(zau c n).bind fun x31 => (zac x31.2 x31.1).bind fun x33 => (zao x33.2).bind fun x35 => some x35:=by
  simp only [zab]; rfl
 have e2:zbj (K+1) Γ.env s (Instr.mk 12 n al of_ res body els labels)=(zbl Γ.env n).bind fun x28 => (zaX (K+1) Γ.env (Instr.mk 12 n al of_ res body els labels) x28 0 x28.2).bind (fun j30 => (if s.ok=true then some j30 else some false).bind (fun j31 => ((zae (St8.mk s.l s.under s.away s.dead s.most j31) x28.1).bind fun x32 => ((zbw x32.1).bind fun x36 => some x36)))):=rfl
 obtain ⟨l1,l2,l3⟩:=zlD g h o.lb n
 rw [e1,e2,l1,l2,Option.bind_some,Option.bind_some,zBn (by rfl),Option.bind_some,zzn]
 have ha:=zjg h (!lbB Γ.lb n)
 rw [Bool.not_not] at ha
 obtain ⟨v,c',v',s',e3,e4,h',_⟩:=zbI g ha (Vk.of3 (lbK o.lb n))
 have e4':zae (St8.mk s.l s.under s.away s.dead s.most (s.ok&&lbB Γ.lb n)) (lbV Γ.lb n)=some (s',v'):=e4
 rw [e3,e4',Option.bind_some,Option.bind_some]
 obtain ⟨c2,s2,e5,e6,h2⟩:=zlC g h'
 exact ⟨c2,s2,by rw [e5]; rfl,by rw [e6]; rfl,h2.mono (by omega)⟩
theorem zBt {Γ:Ctx} {N P K:Nat} {c:Checker} {s:St8} (g:Gd Γ N) (o:COk Γ P) (h:Sim Γ N c s) (x:Instr) (k:Nat) (hx:x.op=13) :
  StB Γ (N+1) (zab (k+1) c x) (zbj (K+1) Γ.env s x):=by
 obtain ⟨op,n,al,of_,res,body,els,labels⟩:=x
 obtain rfl:op=13:=hx
 have e1:zab (k+1) c (Instr.mk 13 n al of_ res body els labels)=(zac c 127).bind fun x37 => (zau x37.2 n).bind fun x39 => (zac x39.2 x39.1).bind fun x41 => (zaf x41.2 x39.1).bind fun x43 => some x43:=by
  simp only [zab]; rfl
 have e2:zbj (K+1) Γ.env s (Instr.mk 13 n al of_ res body els labels)=((zae s 127).bind fun x52 => some x52.1).bind fun j1 => (zbl Γ.env n).bind fun x28 => (zaX (K+1) Γ.env (Instr.mk 13 n al of_ res body els labels) x28 0 x28.2).bind (fun j30 => (if j1.ok=true then some j30 else some false).bind (fun j31 => ((zae (St8.mk j1.l j1.under j1.away j1.dead j1.most j31) x28.1).bind fun x32 => ((zaH x32.1 x28.1).bind fun x34 => some x34)))):=rfl
 obtain ⟨v,c1,v',s1,e3,e4,h1,_⟩:=zbI g h (Vk.of2 (x:=127) (.inr rfl))
 obtain ⟨l1,l2,l3⟩:=zlD g h1 o.lb n
 rw [e1,e2,e3,e4,Option.bind_some,Option.bind_some,Option.bind_some,l1,l2,Option.bind_some,Option.bind_some,zBn (by rfl),Option.bind_some,zzn]
 have ha:=zjg h1 (!lbB Γ.lb n)
 rw [Bool.not_not] at ha
 obtain ⟨v2,c2,v2',s2,e5,e6,h2,_⟩:=zbI g ha (Vk.of3 (lbK o.lb n))
 have e6':zae (St8.mk s1.l s1.under s1.away s1.dead s1.most (s1.ok&&lbB Γ.lb n)) (lbV Γ.lb n)=some (s2,v2'):=e6
 rw [e5,e6',Option.bind_some,Option.bind_some]
 obtain ⟨c3,s3,e7,e8,h3⟩:=zld g h2 (Vk.of3 (lbK o.lb n))
 exact ⟨c3,s3,by rw [e7]; rfl,by rw [e8]; rfl,h3⟩
theorem zzt {Γ:Ctx} {N:Nat} {c:Checker} {s:St8} (g:Gd Γ N) (h:Sim Γ N c s) (hl:∀ x∈Γ.lb,K3 x) (x:Instr) (hx:x.op=14) (hs:x.labels.length<1000) (v:Int) (c0:Checker) (b0:Bool):∀ (k K i:Nat) (b:Bool),i≤x.labels.length→x.labels.length - i<k→x.labels.length - i<K →
  ∃ b',zaJ k x (v,c0) (setB c (!b)) (i:Int)=some (setB c (!b'))∧zaY K Γ.env x (v,b0) (i:Int) b=some b':=by
 intro k
 induction k with
 | zero => intro K i b _ h; omega
 | succ k ih => 
  intro K i b hi h1 h2
  cases K with
  | zero => omega
  | succ K => 
   simp only [zaJ,zaY]
   have ho:(x.op==(14:Int))=true:=by rw [hx]; rfl
   by_cases hlt:i<x.labels.length
   ·have ha:=zjg h (!b)
    obtain ⟨l1,l2,l3⟩:=zlD g ha hl (wI (x.labels.getD (i:Int).toNat default))
    rw [if_pos (dltT hlt),if_pos (by rw [ho,dltT hlt]; rfl),zaC (by omega),zaC (by omega),l1,l2,Option.bind_some,Option.bind_some,wI_nat i (by omega)]
    have e:(if (lbV Γ.lb (wI (x.labels.getD (i:Int).toNat default)) != v)=true then some (Checker.mk (setB (setB c (!b)) (!lbB Γ.lb (wI (x.labels.getD (i:Int).toNat default)))).m (setB (setB c (!b)) (!lbB Γ.lb (wI (x.labels.getD (i:Int).toNat default)))).t (setB (setB c (!b)) (!lbB Γ.lb (wI (x.labels.getD (i:Int).toNat default)))).locals (setB (setB c (!b)) (!lbB Γ.lb (wI (x.labels.getD (i:Int).toNat default)))).stack (setB (setB c (!b)) (!lbB Γ.lb (wI (x.labels.getD (i:Int).toNat default)))).frames (setB (setB c (!b)) (!lbB Γ.lb (wI (x.labels.getD (i:Int).toNat default)))).labels (setB (setB c (!b)) (!lbB Γ.lb (wI (x.labels.getD (i:Int).toNat default)))).most true) else some (setB (setB c (!b)) (!lbB Γ.lb (wI (x.labels.getD (i:Int).toNat default)))))=some (setB c (!(b&&(lbB Γ.lb (wI (x.labels.getD (i:Int).toNat default))&&(lbV Γ.lb (wI (x.labels.getD (i:Int).toNat default))==v))))):=by
     by_cases hv:lbV Γ.lb (wI (x.labels.getD (i:Int).toNat default))=v
     ·rw [if_neg (by simpa using hv),setB_setB]
      have:(lbV Γ.lb (wI (x.labels.getD (i:Int).toNat default))==v)=true:=by simpa using hv
      rw [this]
      cases b <;> cases lbB Γ.lb (wI (x.labels.getD (i:Int).toNat default)) <;> rfl
     ·rw [if_pos (by simpa using hv),← setB_true,setB_setB,setB_setB]
      have:(lbV Γ.lb (wI (x.labels.getD (i:Int).toNat default))==v)=false:=by simpa using hv
      rw [this]
      cases b <;> cases lbB Γ.lb (wI (x.labels.getD (i:Int).toNat default)) <;> rfl
    refine (ih K (i+1) _ (by omega) (by omega) (by omega)).imp fun b' hb => ⟨?_,hb.2⟩
    refine Eq.trans ?_ hb.1
    exact congrArg (fun o => Option.bind o _) e
   ·rw [if_neg (dltF hlt),if_neg (by rw [ho,Bool.true_and]; exact dltF hlt)]
    exact ⟨b,rfl,rfl⟩
theorem zAH {Γ:Ctx} {N P K:Nat} {c:Checker} {s:St8} (g:Gd Γ N) (o:COk Γ P) (h:Sim Γ N c s) (x:Instr) (k:Nat) (hx:x.op=14) (hk:300<k) (hK:300<K) :
  StB Γ (N+1) (zab (k+1) c x) (zbj K Γ.env s x):=by
 have e1:zab (k+1) c x=(zbC k c x).bind fun x45 => some x45:=by
  obtain ⟨op,n,al,of_,res,body,els,labels⟩:=x
  obtain rfl:op=14:=hx
  simp only [zab]; rfl
 have e2:zbj K Γ.env s x=((zae s 127).bind fun x52 => some x52.1).bind fun j1 => (if (((x.labels.length:Int)==(0:Int))||(decide ((x.labels.length:Int)>(257:Int))))=true then some (St8.mk j1.l j1.under j1.away j1.dead j1.most false) else gd (0≤(wI ((x.labels.length:Int) - 1))∧(wI ((x.labels.length:Int) - 1))<(x.labels.length:Int)) ((zbl Γ.env (wI (x.labels.getD (wI ((x.labels.length:Int) - 1)).toNat default))).bind fun x3 => (zaY K Γ.env x x3 0 x3.2).bind (fun j5 => (if j1.ok=true then some j5 else some false).bind (fun j6 => ((zae (St8.mk j1.l j1.under j1.away j1.dead j1.most j6) x3.1).bind fun x7 => ((zbw x7.1).bind fun x11 => some x11)))))):=by
  obtain ⟨op,n,al,of_,res,body,els,labels⟩:=x
  obtain rfl:op=14:=hx
  rfl
 obtain ⟨v,c1,v',s1,e3,e4,h1,_⟩:=zbI g h (Vk.of2 (x:=127) (.inr rfl))
 rw [e1,e2,e4,Option.bind_some,Option.bind_some]
 unfold zbC
 rw [e3,Option.bind_some]
 by_cases hn:(((x.labels.length:Int)==(0:Int))||(decide ((x.labels.length:Int)>(257:Int))))=true
 ·rw [if_pos hn,if_pos hn]
  have hb:=h1.badV
  rw [setB_true] at hb
  exact StB.ofB ⟨_,rfl,hb.mono (by omega)⟩ ⟨_,rfl,h1.badR.mono (by omega)⟩
 ·rw [if_neg hn,if_neg hn]
  rw [Bool.or_eq_true,not_or] at hn
  have hn0:¬ ((x.labels.length:Int)=0):=fun e => hn.1 (by rw [e]; rfl)
  have hn1:¬ ((x.labels.length:Int)>257):=fun e => hn.2 (decide_eq_true e)
  have hlen:0<x.labels.length∧x.labels.length≤257:=by constructor <;> omega
  have hw:wI ((x.labels.length:Int) - 1)=(x.labels.length:Int) - 1:=wI_small (by omega) (by omega)
  rw [hw,zaC (by omega),zaC (by omega)]
  obtain ⟨l1,l2,l3⟩:=zlD g h1 o.lb (wI (x.labels.getD ((x.labels.length:Int) - 1).toNat default))
  have l1':zau (v,c1).2 (wI (x.labels.getD ((x.labels.length:Int) - 1).toNat default))=_:=l1
  rw [l1',l2,Option.bind_some,Option.bind_some]
  obtain ⟨b',t1,t2⟩:=zzt g h1 o.lb x hx (by omega) (lbV Γ.lb (wI (x.labels.getD ((x.labels.length:Int) - 1).toNat default))) (setB c1 (!lbB Γ.lb (wI (x.labels.getD ((x.labels.length:Int) - 1).toNat default)))) (lbB Γ.lb (wI (x.labels.getD ((x.labels.length:Int) - 1).toNat default))) k K 0 (lbB Γ.lb (wI (x.labels.getD ((x.labels.length:Int) - 1).toNat default))) (by omega) (by omega) (by omega)
  have t1':=t1
  rw [show ((0:Nat):Int)=0 from rfl] at t1' t2
  show StB Γ (N+1) (((zaJ k x (lbV Γ.lb (wI (x.labels.getD ((x.labels.length:Int) - 1).toNat default)),setB c1 (!lbB Γ.lb (wI (x.labels.getD ((x.labels.length:Int) - 1).toNat default)))) (setB c1 (!lbB Γ.lb (wI (x.labels.getD ((x.labels.length:Int) - 1).toNat default)))) 0).bind fun j6 => (zac j6 (lbV Γ.lb (wI (x.labels.getD ((x.labels.length:Int) - 1).toNat default)))).bind fun x7 => (zao x7.2).bind fun x9 => some x9).bind fun x45 => some x45) ((zaY K Γ.env x (lbV Γ.lb (wI (x.labels.getD ((x.labels.length:Int) - 1).toNat default)),lbB Γ.lb (wI (x.labels.getD ((x.labels.length:Int) - 1).toNat default))) 0 (lbB Γ.lb (wI (x.labels.getD ((x.labels.length:Int) - 1).toNat default)))).bind fun j5 => (if s1.ok=true then some j5 else some false).bind (fun j6 => ((zae (St8.mk s1.l s1.under s1.away s1.dead s1.most j6) (lbV Γ.lb (wI (x.labels.getD ((x.labels.length:Int) - 1).toNat default)))).bind fun x7 => ((zbw x7.1).bind fun x11 => some x11))))
  rw [t1',t2,Option.bind_some,Option.bind_some,zzn]
  have ha:=zjg h1 (!b')
  rw [Bool.not_not] at ha
  obtain ⟨v2,c2,v2',s2,e5,e6,h2,_⟩:=zbI g ha (Vk.of3 (lbK o.lb (wI (x.labels.getD ((x.labels.length:Int) - 1).toNat default))))
  have e6':zae (St8.mk s1.l s1.under s1.away s1.dead s1.most (s1.ok&&b')) (lbV Γ.lb (wI (x.labels.getD ((x.labels.length:Int) - 1).toNat default)))=some (s2,v2'):=e6
  rw [e5,e6',Option.bind_some,Option.bind_some]
  obtain ⟨c3,s3,e7,e8,h3⟩:=zlC g h2
  exact ⟨c3,s3,by rw [e7]; rfl,by rw [e8]; rfl,h3.mono (by omega)⟩
theorem zBu (x:Instr) (K:Nat) (hK:10<K) (ha:0≤x.align):zaM K x 1 0=some (if x.align≤3 then 2 ^ x.align.toNat else 16):=by
 obtain ⟨k,rfl⟩:∃ k,K=k+6:=⟨K - 6,by omega⟩
 have w1:wI (2 * 1)=2:=by decide
 have w2:wI (2 * 2)=4:=by decide
 have w3:wI (2 * 4)=8:=by decide
 have w4:wI (2 * 8)=16:=by decide
 have u0:IntKind.wrap .u32 (0+1)=1:=by decide
 have u1:IntKind.wrap .u32 (1+1)=2:=by decide
 have u2:IntKind.wrap .u32 (2+1)=3:=by decide
 have u3:IntKind.wrap .u32 (3+1)=4:=by decide
 have hc:x.align=0∨x.align=1∨x.align=2∨x.align=3∨4≤x.align:=by omega
 rcases hc with h | h | h | h | h
 ·simp only [zaM,h]; rfl
 ·simp only [zaM,h,w1,u0]; rfl
 ·simp only [zaM,h,w1,w2,u0,u1]; rfl
 ·simp only [zaM,h,w1,w2,w3,u0,u1,u2]; rfl
 ·have d0:decide (0<x.align)=true:=decide_eq_true (by omega)
  have d1:decide (1<x.align)=true:=decide_eq_true (by omega)
  have d2:decide (2<x.align)=true:=decide_eq_true (by omega)
  have d3:decide (3<x.align)=true:=decide_eq_true (by omega)
  simp only [zaM,w1,w2,w3,w4,u0,u1,u2,u3,d0,d1,d2,d3]
  rw [if_neg (by omega:¬ x.align≤3)]
  have d4:decide ((16:Int)≤8)=false:=by decide
  rw [d4,Bool.and_false]
  rfl
theorem zBg (x:Instr) (ha:0≤x.align) (n:Int) (hn:0≤n∧n≤8) :
  (if decide (x.align>(3:Int))=true then true else decide ((wI (1 * 2 ^ (min x.align.toNat (IntKind.bits .i64))))>n)) = !decide ((if x.align≤3 then (2:Int) ^ x.align.toNat else 16)≤n):=by
 by_cases h:x.align≤3
 ·rw [if_neg (by simp; omega),if_pos h]
  have hc:x.align=0∨x.align=1∨x.align=2∨x.align=3:=by omega
  have e:wI (1 * 2 ^ (min x.align.toNat (IntKind.bits .i64)))=(2:Int) ^ x.align.toNat:=by
   rcases hc with h | h | h | h <;> rw [h] <;> decide
  rw [e]
  by_cases h2:(2:Int) ^ x.align.toNat≤n
  ·rw [decide_eq_true h2,decide_eq_false (by omega)]; rfl
  ·rw [decide_eq_false h2,decide_eq_true (by omega)]; rfl
 ·rw [if_pos (by simp; omega),if_neg h,decide_eq_false (by omega)]; rfl
theorem n32 (n:Int):(n != wI (IntKind.wrap .i32 n))=((decide (n<((-2147483648):Int)))||(decide (n≥(2147483648:Int)))):=by
 rw [IntKind.wrap_i32,wI_small (by omega) (by omega)]
 by_cases h:n < -2147483648
 ·rw [decide_eq_true h,Bool.true_or]
  simp only [bne_iff_ne,ne_eq]
  omega
 ·by_cases h2:n≥2147483648
  ·rw [decide_eq_true h2,Bool.or_true]
   simp only [bne_iff_ne,ne_eq]
   omega
  ·rw [decide_eq_false h,decide_eq_false h2]
   have:n=(n+2147483648) % 4294967296 - 2147483648:=by omega
   rw [← this]; simp
theorem zAI {Γ:Ctx} {N P K:Nat} {c:Checker} {s:St8} (g:Gd Γ N) (o:COk Γ P) (h:Sim Γ N c s) (hk:s.ok=true) (x:Instr) (h0:0≤x.op) (h1:x.op<256) (ha:0≤x.align) (hK:P<K) :
  StB Γ (N+1) (zaV c x) (zci K Γ.env s x):=by
 obtain ⟨t,is,f,n,bs,S⟩:=zAm x.op h0 h1
 obtain ⟨e,q1,a1⟩:=S.sg
 obtain ⟨p,r,q2,a2⟩:=S.rsg
 obtain ⟨f',fe,q3,a3⟩:=S.fo
 obtain ⟨fe',q4⟩:=S.rfo
 obtain ⟨n',sg,be,q5,a5⟩:=S.by_
 obtain ⟨sg',q6⟩:=S.rby
 have fl:=h.fld
 have hcb:c.bad=false:=by rw [h.bad,hk]; rfl
 unfold zaV zci
 rw [q1,q2,q4,q6,Option.bind_some,Option.bind_some,Option.bind_some,Option.bind_some]
 cases is with
 | false => 
  rw [if_pos (by rw [a1]; rfl),if_pos (by rfl)]
  have hb:=h.badV
  rw [setB_true] at hb
  exact StB.ofB ⟨_,rfl,hb.mono (by omega)⟩ ⟨_,rfl,h.badR.mono (by omega)⟩
 | true => 
  obtain ⟨rfl,rfl⟩:=a2 rfl
  obtain ⟨rfl,a3'⟩:=a3 rfl
  obtain ⟨rfl,a5'⟩:=a5 rfl
  obtain ⟨tok,hn⟩:=S.tok rfl
  have tok':TOk P t:=⟨tok.1,tok.2.1,by have:=tok.2.2; have:=o.P1; omega⟩
  rw [if_neg (by rw [a1]; decide),q5,Option.bind_some]
  have hal:∃ b:Bool,(if be.isNone=true then (if c.bad=true then some (Checker.mk c.m c.t c.locals c.stack c.frames c.labels c.most true) else (if (decide (x.align>(3:Int)))=true then some (Checker.mk c.m c.t c.locals c.stack c.frames c.labels c.most true) else gd (¬ x.align<0) (some (Checker.mk c.m c.t c.locals c.stack c.frames c.labels c.most (decide ((wI (1 * 2 ^ (min x.align.toNat (IntKind.bits .i64))))>n')))))).bind (fun j16 => some j16) else some c)=some (setB c (!b)) ∧
    (if bs=true then (zaM K x 1 0).bind (fun j10 => (if s.ok=true then some (decide (j10≤n')) else some false).bind (fun j11 => some j11)) else some s.ok)=some (s.ok&&b):=by
   rw [a5']
   cases bs with
   | false => exact ⟨true,by rw [if_neg (by decide),Bool.not_true,setB_false],by rw [if_neg (by decide),Bool.and_true]⟩
   | true => 
    refine ⟨decide ((if x.align≤3 then (2:Int) ^ x.align.toNat else 16)≤n'),?_,?_⟩
    ·rw [if_pos rfl,← zBg x ha n' hn,if_neg (by rw [hcb]; decide)]
     by_cases h3:decide (x.align>(3:Int))=true
     ·rw [if_pos h3,if_pos h3,setB_true]; rfl
     ·rw [if_neg h3,if_neg h3,zaC (by omega)]
      unfold setB
      rw [hcb]; rfl
    ·rw [if_pos rfl,zBu x K (by have:=o.P1; omega) ha,Option.bind_some,hk]
     rfl
  obtain ⟨b,b1,b2⟩:=hal
  have key:∀ (A:Option Checker) (B:Option Bool) (F:Checker→Option Checker) (G:Bool→Option St8),A=some (setB c (!b))→B=some (s.ok&&b)→StB Γ (N+1) (F (setB c (!b))) (G (s.ok&&b))→StB Γ (N+1) (A.bind F) (B.bind G):=by
   intro A B F G h1 h2 h3
   rw [h1,h2]; exact h3
  have ha2:=zjg h (!b)
  rw [Bool.not_not] at ha2
  have em:(bif ((f'==(4:Int))||(f'==(5:Int))) then ((((setB c (!b)).m.memories.length:Int)==(0:Int))||((f'==(1:Int))&&(x.n != (wI (IntKind.wrap .i32 x.n))))) else ((f'==(1:Int))&&(x.n != (wI (IntKind.wrap .i32 x.n)))))=(bif (f'==(4:Int)) then (((Γ.m.memories.length:Int)==(0:Int))||((f'==(1:Int))&&((decide (x.n<((-2147483648):Int)))||(decide (x.n≥(2147483648:Int)))))) else (bif (f'==(5:Int)) then (((Γ.m.memories.length:Int)==(0:Int))||((f'==(1:Int))&&((decide (x.n<((-2147483648):Int)))||(decide (x.n≥(2147483648:Int)))))) else ((f'==(1:Int))&&((decide (x.n<((-2147483648):Int)))||(decide (x.n≥(2147483648:Int))))))):=by
   rw [n32,show (setB c (!b)).m=Γ.m from fl.1]
   cases f'==(4:Int) <;> cases f'==(5:Int) <;> rfl
  by_cases hF:(bif (f'==(4:Int)) then (((Γ.m.memories.length:Int)==(0:Int))||((f'==(1:Int))&&((decide (x.n<((-2147483648):Int)))||(decide (x.n≥(2147483648:Int)))))) else (bif (f'==(5:Int)) then (((Γ.m.memories.length:Int)==(0:Int))||((f'==(1:Int))&&((decide (x.n<((-2147483648):Int)))||(decide (x.n≥(2147483648:Int)))))) else ((f'==(1:Int))&&((decide (x.n<((-2147483648):Int)))||(decide (x.n≥(2147483648:Int)))))))=true
  ·have hc0:((!(t.params,t.result,true).2.2)||(bif ((f',fe').1==(4:Int)) then (((Γ.env.m.memories.length:Int)==(0:Int))||(((f',fe').1==(1:Int))&&((decide (x.n<((-2147483648):Int)))||(decide (x.n≥(2147483648:Int)))))) else (bif ((f',fe').1==(5:Int)) then (((Γ.env.m.memories.length:Int)==(0:Int))||(((f',fe').1==(1:Int))&&((decide (x.n<((-2147483648):Int)))||(decide (x.n≥(2147483648:Int)))))) else (((f',fe').1==(1:Int))&&((decide (x.n<((-2147483648):Int)))||(decide (x.n≥(2147483648:Int))))))))=true:=hF
   rw [if_pos hc0]
   refine StB.ofB ?_ ⟨_,rfl,h.badR.mono (by omega)⟩
   obtain ⟨c',e5,hb⟩:=callB g ha2.badV t (by have:=tok.2.2; omega)
   refine ⟨c',?_,hb⟩
   refine (congrArg (fun o => Option.bind o _) b1).trans ?_
   rw [Option.bind_some,q3,Option.bind_some]
   have hc1:((!(f',fe).2.isNone)||(bif (((f',fe).1==(4:Int))||((f',fe).1==(5:Int))) then ((((setB c (!b)).m.memories.length:Int)==(0:Int))||(((f',fe).1==(1:Int))&&(x.n != (wI (IntKind.wrap .i32 x.n))))) else (((f',fe).1==(1:Int))&&(x.n != (wI (IntKind.wrap .i32 x.n))))))=true:=by
    show ((!fe.isNone)||_)=true
    rw [a3']
    exact em.trans hF
   rw [if_pos hc1,Option.bind_some,← setB_true,e5]
   rfl
  ·have hc0:¬ ((!(t.params,t.result,true).2.2)||(bif ((f',fe').1==(4:Int)) then (((Γ.env.m.memories.length:Int)==(0:Int))||(((f',fe').1==(1:Int))&&((decide (x.n<((-2147483648):Int)))||(decide (x.n≥(2147483648:Int)))))) else (bif ((f',fe').1==(5:Int)) then (((Γ.env.m.memories.length:Int)==(0:Int))||(((f',fe').1==(1:Int))&&((decide (x.n<((-2147483648):Int)))||(decide (x.n≥(2147483648:Int)))))) else (((f',fe').1==(1:Int))&&((decide (x.n<((-2147483648):Int)))||(decide (x.n≥(2147483648:Int))))))))=true:=hF
   rw [if_neg hc0]
   refine key _ _ _ _ b1 b2 ?_
   rw [q3,Option.bind_some]
   have hc1:¬ ((!(f',fe).2.isNone)||(bif (((f',fe).1==(4:Int))||((f',fe).1==(5:Int))) then ((((setB c (!b)).m.memories.length:Int)==(0:Int))||(((f',fe).1==(1:Int))&&(x.n != (wI (IntKind.wrap .i32 x.n))))) else (((f',fe).1==(1:Int))&&(x.n != (wI (IntKind.wrap .i32 x.n))))))=true:=by
    intro hh
    apply hF
    rw [← em]
    have hh':((!fe.isNone)||_)=true:=hh
    rw [a3'] at hh'
    exact hh'
   rw [if_neg hc1,Option.bind_some]
   obtain ⟨c',s',e5,e6,h'⟩:=zwu g ha2 tok' o.P0 hK
   refine ⟨c',s',by rw [e5]; rfl,?_,h'⟩
   show ((zbG K (setO s b) t).bind fun x8 => some x8)=_
   rw [e6]; rfl
instance (r:Int):Decidable (K3 r):=by unfold K3; infer_instance
theorem zAj (r:Int):zaR r=some (decide (K3 r)):=by
 unfold zaR
 by_cases h0:r=0
 ·subst h0; rfl
 by_cases h1:r=127
 ·subst h1; rfl
 by_cases h2:r=126
 ·subst h2; rfl
 have hn:¬ K3 r:=by unfold K3; omega
 rw [decide_eq_false hn]
 simp [h0,h1,h2]
theorem zBB (r:Int):((r != (0:Int))&&((r != (127:Int))&&(r != (126:Int)))) = !decide (K3 r):=by
 by_cases h0:r=0
 ·subst h0; rfl
 by_cases h1:r=127
 ·subst h1; rfl
 by_cases h2:r=126
 ·subst h2; rfl
 have hn:¬ K3 r:=by unfold K3; omega
 rw [decide_eq_false hn]
 simp [h0,h1,h2]
def IH (Γ:Ctx) (N k:Nat) (L:List Instr):Prop:=
 ∀ (lab:Int),K3 lab→∀ (l:List Int) (aw dd:Bool) (c:Checker) (s:St8),l.length≤N→Sim (Γ.sub l aw dd lab) 0 c s→∃ c' s',zal (k+2) c L=some c'∧zaB (k+2) (Γ.sub l aw dd lab).env s L=some s'∧Sim (Γ.sub l aw dd lab) L.length c' s'
theorem zyO (c:Checker) (r:Int):(if c.bad=true then some (Checker.mk c.m c.t c.locals c.stack c.frames c.labels c.most true) else (zaR r).bind fun x4 => some (Checker.mk c.m c.t c.locals c.stack c.frames c.labels c.most (!x4)))=some (setB c (!decide (K3 r))):=by
 rw [zAj,Option.bind_some]
 exact zAy c _
theorem zAJ {Γ:Ctx} {N P k:Nat} {c:Checker} {s:St8} (o:COk Γ P) (h:Sim Γ N c s) (x:Instr) (hx:x.op=2∨x.op=3∨x.op=4)
  (g:Gd Γ (N+x.body.length+x.els.length+1)) (hf:Γ.fr.length+1<1000000000) (hl:Γ.lb.length+1<1000000000) (i1:IH Γ N k x.body) (i2:IH Γ N k x.els) :
  StB Γ (N+1) (zab (k+4) c x) (zbm (k+4) Γ.env s x):=by
 obtain ⟨op,n,al,of_,res,body,els,labels⟩:=x
 have gN:Gd Γ N:=g.mono (by omega)
 have g1:Gd Γ (N+body.length+1):=g.mono (by show N+body.length+1≤N+body.length+els.length+1; omega)
 have g2:Gd Γ (N+els.length+1):=g.mono (by show N+els.length+1≤N+body.length+els.length+1; omega)
 have L0:∀ {c s},Sim Γ N c s→K3 res→∃ c' s',((zaf c res).bind fun x10 => some x10)=some c'∧((zaH s res).bind fun x2 => some x2)=some s'∧Sim Γ (N+1) c' s':=fun h hr => by
  obtain ⟨c',s',e1,e2,h'⟩:=zld gN h (Vk.of3 hr)
  exact ⟨c',s',by rw [e1]; rfl,by rw [e2]; rfl,h'⟩
 have LB:∀ {c},BadV Γ N c→∃ c',((zaf c res).bind fun x10 => some x10)=some c'∧BadV Γ (N+1) c':=fun h => by
  obtain ⟨c',e1,h'⟩:=layB gN h res
  exact ⟨c',by rw [e1]; rfl,h'⟩
 have eb:∀ op,zbm (k+4) Γ.env s (Instr.mk op n al of_ res body els labels)=if ((res != (0:Int))&&((res != (127:Int))&&(res != (126:Int))))=true then some (St8.mk s.l s.under s.away s.dead s.most false) else (if (op==(2:Int))=true then ((zaF (k+3) Γ.env s body res res).bind fun x4 => some x4) else (if (op==(3:Int))=true then ((zaF (k+3) Γ.env s body res 0).bind fun x6 => some x6) else ((zae s 127).bind fun x8 => ((zaF (k+3) Γ.env x8.1 body res res).bind fun x10 => ((zaF (k+3) Γ.env x10 els res res).bind fun x12 => some x12))))).bind (fun j1 => ((zaH j1 res).bind fun x2 => some x2)):=fun op => by
  simp only [zbm]; rfl
 rw [eb,zBB]
 have hx':op=2∨op=3∨op=4:=hx
 rcases hx' with rfl | rfl | rfl
 ·have e1:zab (k+4) c (Instr.mk 2 n al of_ res body els labels)=(if c.bad=true then some (Checker.mk c.m c.t c.locals c.stack c.frames c.labels c.most true) else (zaR res).bind fun x4 => some (Checker.mk c.m c.t c.locals c.stack c.frames c.labels c.most (!x4))).bind fun j6 => (zah (k+3) j6 body res res).bind fun x8 => (zaf x8 res).bind fun x10 => some x10:=by
   simp only [zab]; rfl
  rw [e1,zyO,Option.bind_some]
  by_cases hr:K3 res
  ·rw [decide_eq_true hr,if_neg (by decide),if_pos (by rfl),Bool.not_true,setB_false]
   obtain ⟨c',s',e3,e4,h'⟩:=zlE body hr g1 hf hl (i1 res hr) h
   rw [e3,e4]
   exact L0 h' hr
  ·rw [decide_eq_false hr,if_pos (by decide),Bool.not_false]
   obtain ⟨c',e3,hb⟩:=innerB (k:=k) gN hf hl h.badV body res res
   rw [e3]
   exact StB.ofB (LB hb) ⟨_,rfl,h.badR.mono (by omega)⟩
 ·have e1:zab (k+4) c (Instr.mk 3 n al of_ res body els labels)=(if c.bad=true then some (Checker.mk c.m c.t c.locals c.stack c.frames c.labels c.most true) else (zaR res).bind fun x4 => some (Checker.mk c.m c.t c.locals c.stack c.frames c.labels c.most (!x4))).bind fun j6 => (zah (k+3) j6 body res 0).bind fun x8 => (zaf x8 res).bind fun x10 => some x10:=by
   simp only [zab]; rfl
  rw [e1,zyO,Option.bind_some]
  by_cases hr:K3 res
  ·rw [decide_eq_true hr,if_neg (by decide),if_neg (by decide),if_pos (by rfl),Bool.not_true,setB_false]
   obtain ⟨c',s',e3,e4,h'⟩:=zlE body hr g1 hf hl (i1 0 (.inl rfl)) h
   rw [e3,e4]
   exact L0 h' hr
  ·rw [decide_eq_false hr,if_pos (by decide),Bool.not_false]
   obtain ⟨c',e3,hb⟩:=innerB (k:=k) gN hf hl h.badV body res 0
   rw [e3]
   exact StB.ofB (LB hb) ⟨_,rfl,h.badR.mono (by omega)⟩
 ·have e1:zab (k+4) c (Instr.mk 4 n al of_ res body els labels)=(if c.bad=true then some (Checker.mk c.m c.t c.locals c.stack c.frames c.labels c.most true) else (zaR res).bind fun x4 => some (Checker.mk c.m c.t c.locals c.stack c.frames c.labels c.most (!x4))).bind fun j19 => (zac j19 127).bind fun x20 => (zah (k+3) x20.2 body res res).bind fun x22 => (zah (k+3) x22 els res res).bind fun x24 => (zaf x24 res).bind fun x26 => some x26:=by
   simp only [zab]; rfl
  rw [e1,zyO,Option.bind_some]
  by_cases hr:K3 res
  ·rw [decide_eq_true hr,if_neg (by decide),if_neg (by decide),if_neg (by decide),Bool.not_true,setB_false]
   obtain ⟨v,c0,v',s0,e5,e6,h0,_⟩:=zbI gN h (Vk.of2 (x:=127) (.inr rfl))
   rw [e5,e6,Option.bind_some,Option.bind_some]
   obtain ⟨c1,s1,e3,e4,h1⟩:=zlE body hr g1 hf hl (i1 res hr) h0
   rw [e3,e4,Option.bind_some,Option.bind_some]
   obtain ⟨c2,s2,e7,e8,h2⟩:=zlE els hr g2 hf hl (i2 res hr) h1
   rw [e7,e8]
   exact L0 h2 hr
  ·rw [decide_eq_false hr,if_pos (by decide),Bool.not_false]
   obtain ⟨v,c0,e5,h0⟩:=takeB gN h.badV 127
   rw [e5,Option.bind_some]
   obtain ⟨c',e3,hb⟩:=innerB (k:=k) gN hf hl h0 body res res
   rw [e3,Option.bind_some]
   obtain ⟨c'',e4,hb'⟩:=innerB (k:=k) gN hf hl hb els res res
   rw [e4]
   exact StB.ofB (LB hb') ⟨_,rfl,h.badR.mono (by omega)⟩
def stepR (k:Nat) (p0:Env8) (a4:St8) (x:Instr):Option St8:=
 if ((x.op)==(0:Int))=true then ((zbw a4).bind fun x9 => some x9) else (if ((x.op)==(1:Int))=true then some a4 else (if ((decide ((x.op)≥(2:Int)))&&(decide ((x.op)≤(4:Int))))=true then ((zbm k p0 a4 x).bind fun x11 => some x11) else (if ((decide ((x.op)≥(12:Int)))&&(decide ((x.op)≤(14:Int))))=true then ((zbj k p0 a4 x).bind fun x13 => some x13) else (if ((x.op)==(15:Int))=true then ((zae a4 p0.result).bind fun x15 => ((zbw x15.1).bind fun x17 => some x17)) else (if (((x.op)==(16:Int))||((x.op)==(17:Int)))=true then ((zbS k p0 a4 x).bind fun x19 => some x19) else (if ((x.op)==(26:Int))=true then ((zae a4 255).bind fun x21 => some x21.1) else (if ((x.op)==(27:Int))=true then ((zae a4 127).bind fun x23 => ((zae x23.1 255).bind fun x25 => ((zae x25.1 x25.2).bind fun x27 => ((zaH x27.1 x27.2).bind fun x29 => some x29)))) else (if ((decide ((x.op)≥(32:Int)))&&(decide ((x.op)≤(36:Int))))=true then ((zaA p0 a4 x).bind fun x31 => some x31) else ((zci k p0 a4 x).bind fun x33 => some x33)))))))))
def stepR' (k:Nat) (e:Env8) (s:St8) (x:Instr):Option St8:=if s.ok=true then stepR k e s x else some s
theorem zAi (k:Nat) (e:Env8) (l:List Instr) {s:St8} (h:s.ok=false):l.foldlM (stepR' k e) s=some s:=by
 induction l with
 | nil => rfl
 | cons x l ih => 
  rw [List.foldlM_cons]
  have:stepR' k e s x=some s:=by unfold stepR'; rw [h]; rfl
  rw [this]; exact ih
theorem zzv (k:Nat) (e:Env8) (s:St8) (l:List Instr) (hk:l.length<k) (hs:l.length<1000000000):zaB (k+1) e s l=l.foldlM (stepR' k e) s:=by
 simp only [zaB]
 rw [Option.bind_fun_some]
 have key:∀ (q i:Nat) (s:St8),i≤l.length→l.length - i<q→lpN q (fun (rec6:St8×Int→Option (St8)) v => match v with | (a4,a5) => (if ((decide (a5<(l.length:Int)))&&a4.ok)=true then (gd (0≤a5∧a5<(l.length:Int)) (stepR k e a4 (l.getD a5.toNat default))).bind (fun j7 => rec6 (j7,(wI (a5+1)))) else some a4)) (s,(i:Int))=(l.drop i).foldlM (stepR' k e) s:=by
  intro q
  induction q with
  | zero => intro i s _ h; omega
  | succ q ih => 
   intro i s h1 h2
   simp only [lpN]
   by_cases h:i<l.length
   ·rw [dropS l i h,List.foldlM_cons]
    by_cases hb:s.ok=true
    ·rw [if_pos (by rw [dltT h,hb]; rfl),zaC (by omega)]
     unfold stepR'
     rw [if_pos hb,wI_nat i (by omega)]
     cases stepR k e s (l.getD (i:Int).toNat default) with
     | none => rfl
     | some c' => exact ih (i+1) c' h (by omega)
    ·have hb':s.ok=false:=by simpa using hb
     rw [if_neg (by rw [hb',Bool.and_false]; decide)]
     have:stepR' k e s (l.getD (i:Int).toNat default)=some s:=by unfold stepR'; rw [hb']; rfl
     rw [this]
     exact (zAi k e _ hb').symm
   ·rw [if_neg (by intro hh; rw [Bool.and_eq_true] at hh; exact dltF h hh.1),List.drop_of_length_le (by omega)]
    rfl
 exact key k 0 s (Nat.zero_le _) (by omega)
mutual
def IWI:Instr→Prop
 | .mk op _ al _ _ b e _ => (0≤op∧op<256)∧0≤al∧IWL b∧IWL e
def IWL:List Instr→Prop
 | [] => True
 | x :: l => IWI x∧IWL l
end
theorem zAK {Γ:Ctx} {N P k:Nat} {c:Checker} {s:St8} (o:COk Γ P) (h:Sim Γ N c s) (x:Instr) (hw:IWI x) (hk:P+400<k)
  (g:Gd Γ (N+x.body.length+x.els.length+1)) (hf:Γ.fr.length+1<1000000000) (hl:Γ.lb.length+1<1000000000) (i1:IH Γ N k x.body) (i2:IH Γ N k x.els) :
  StB Γ (N+1) (stepC (k+4) c x) (stepR' (k+4) Γ.env s x):=by
 have gN:Gd Γ N:=g.mono (by omega)
 unfold stepC stepR'
 by_cases hk':s.ok=true
 rotate_left
 ·have hb:s.ok=false:=by simpa using hk'
  rw [if_pos (by rw [h.bad,hb]; rfl),if_neg hk']
  exact ⟨c,s,rfl,rfl,h.mono (by omega)⟩
 rw [if_neg (by rw [h.bad,hk']; decide),if_pos hk']
 have hop:(0≤x.op∧x.op<256)∧0≤x.align:=by
  cases x; simp only [IWI] at hw; exact ⟨hw.1,hw.2.1⟩
 obtain ⟨⟨o1,o2⟩,o3⟩:=hop
 unfold stepR
 simp only [Option.bind_fun_some]
 by_cases q0:x.op=0
 ·rw [if_pos (by rw [q0]; decide),if_pos (by rw [q0]; decide)]
  simp only [zab]
  rw [if_pos (by rw [q0]; decide)]
  obtain ⟨c',s',e1,e2,h'⟩:=zlC gN h
  exact ⟨c',s',by rw [e1]; rfl,e2,h'.mono (by omega)⟩
 by_cases q1:x.op=1
 ·rw [if_pos (by rw [q1]; decide),if_neg (by rw [q1]; decide),if_pos (by rw [q1]; decide)]
  simp only [zab]
  rw [if_neg (by rw [q1]; decide),if_pos (by rw [q1]; decide)]
  exact ⟨c,s,rfl,rfl,h.mono (by omega)⟩
 rw [if_neg (c:=(x.op==(0:Int))=true) (by simpa using q0),if_neg (c:=(x.op==(1:Int))=true) (by simpa using q1)]
 by_cases q2:x.op=2∨x.op=3∨x.op=4
 ·rw [if_pos (by simp; omega),if_pos (by simp; omega)]
  exact zAJ o h x q2 g hf hl i1 i2
 rw [if_neg (c:=(decide (x.op≥2)&&decide (x.op≤4))=true) (by simp; omega)]
 by_cases q3:x.op=12
 ·rw [if_pos (by simp; omega),if_pos (by simp; omega)]
  exact zCd gN o h x _ q3
 by_cases q4:x.op=13
 ·rw [if_pos (by simp; omega),if_pos (by simp; omega)]
  exact zBt gN o h x _ q4
 by_cases q5:x.op=14
 ·rw [if_pos (by simp; omega),if_pos (by simp; omega)]
  exact zAH gN o h x _ q5 (by omega) (by omega)
 rw [if_neg (c:=(decide (x.op≥12)&&decide (x.op≤14))=true) (by simp; omega)]
 by_cases q6:x.op=15
 ·rw [if_pos (by simp; omega),if_pos (by simp [q6])]
  have e1:zab (k+4) c x=(zac c c.t.result).bind fun x47 => (zao x47.2).bind fun x49 => some x49:=by
   obtain ⟨op,n,al,of_,res,body,els,labels⟩:=x
   obtain rfl:op=15:=q6
   simp only [zab]; rfl
  rw [e1,h.fld.2.1]
  obtain ⟨v,c',v',s',e3,e4,h',_⟩:=zbI gN h (Vk.of3 o.res)
  have e4':zae s Γ.env.result=some (s',v'):=e4
  rw [e3,e4',Option.bind_some,Option.bind_some]
  obtain ⟨c2,s2,e5,e6,h2⟩:=zlC gN h'
  exact ⟨c2,s2,by rw [e5]; rfl,e6,h2.mono (by omega)⟩
 rw [if_neg (c:=(x.op==(15:Int))=true) (by simpa using q6)]
 by_cases q7:x.op=16
 ·rw [if_pos (by simp; omega),if_pos (by simp [q7])]
  exact (zyU gN o h hk' (by omega) x _).1 q7
 by_cases q8:x.op=17
 ·rw [if_pos (by simp; omega),if_pos (by simp [q8])]
  exact (zyU gN o h hk' (by omega) x _).2 q8
 rw [if_neg (c:=(x.op==(16:Int)||x.op==(17:Int))=true) (by simp [q7,q8])]
 by_cases q9:x.op=26
 ·rw [if_neg (by simp; omega),if_pos (by simp [q9])]
  have e1:zag c x=(zac c 1).bind fun x1 => some x1.2:=by
   unfold zag; rw [if_pos (by simp [q9])]
  rw [e1]
  obtain ⟨v,c',v',s',e3,e4,h',_⟩:=zbI gN h Vk.any
  exact ⟨c',s',by rw [e3]; rfl,by rw [e4]; rfl,h'.mono (by omega)⟩
 rw [if_neg (c:=(x.op==(26:Int))=true) (by simpa using q9)]
 by_cases q10:x.op=27
 ·rw [if_neg (by simp; omega),if_pos (by simp [q10])]
  have e1:zag c x=(zac c 127).bind fun x3 => (zac x3.2 1).bind fun x5 => (zac x5.2 x5.1).bind fun x7 => (zaf x7.2 x7.1).bind fun x9 => some x9:=by
   unfold zag; rw [if_neg (by simp [q10]),if_pos (by simp [q10])]
  rw [e1]
  obtain ⟨v,c',v',s',e3,e4,h',_⟩:=zbI gN h (Vk.of2 (x:=127) (.inr rfl))
  rw [e3,e4,Option.bind_some,Option.bind_some]
  obtain ⟨v2,c2,v2',s2,e5,e6,h2,k2⟩:=zbI gN h' Vk.any
  rw [e5,e6,Option.bind_some,Option.bind_some]
  obtain ⟨v3,c3,v3',s3,e7,e8,h3,k3⟩:=zbI gN h2 k2
  rw [e7,e8,Option.bind_some,Option.bind_some]
  obtain ⟨c4,s4,e9,e10,h4⟩:=zld gN h3 k3
  exact ⟨c4,s4,by rw [e9]; rfl,e10,h4⟩
 rw [if_neg (c:=(x.op==(27:Int))=true) (by simpa using q10)]
 by_cases q11:32≤x.op∧x.op≤36
 ·rw [if_neg (by simp; omega),if_pos (by simp; omega)]
  exact zyq gN o h hk' x q11.1 q11.2
 rw [if_neg (c:=(decide (x.op≥32)&&decide (x.op≤36))=true) (by simp; omega)]
 by_cases q12:x.op<26
 ·rw [if_pos (by simpa using q12)]
  have hB:zab (k+4) c x=some (Checker.mk c.m c.t c.locals c.stack c.frames c.labels c.most true):=by
   simp only [zab]
   have r2:(if (x.op==(2:Int))=true then some (x.op==(2:Int)) else some (x.op==(3:Int)))=some false:=by
    rw [if_neg (by simp; omega)]
    congr 1
    simp; omega
   rw [if_neg (by simp; omega),if_neg (by simp; omega),r2,Option.bind_some,if_neg (by decide),if_neg (by simp; omega),if_neg (by simp; omega),if_neg (by simp; omega),if_neg (by simp; omega),if_neg (by simp; omega),if_neg (by simp; omega),if_neg (by simp; omega)]
  rw [hB]
  obtain ⟨t,is,f,n,bs,S⟩:=zAm x.op o1 o2
  obtain ⟨p,r,r1,_⟩:=S.rsg
  obtain ⟨fe,r2⟩:=S.rfo
  obtain ⟨sg,r3⟩:=S.rby
  have his:is=false:=S.low q12 (by omega) (by omega)
  subst his
  unfold zci
  rw [r1,r2,r3,Option.bind_some,Option.bind_some,Option.bind_some,if_pos (by rfl)]
  have hb:=h.badV
  rw [setB_true] at hb
  exact StB.ofB ⟨_,rfl,hb.mono (by omega)⟩ ⟨_,rfl,h.badR.mono (by omega)⟩
 ·rw [if_neg (by simpa using q12)]
  have e1:zag c x=(zaV c x).bind fun x37 => some x37:=by
   unfold zag
   rw [if_neg (by simp; omega),if_neg (by simp; omega),if_neg (by simp; omega),if_neg (by simp; omega),if_neg (by simp; omega),if_neg (by simp; omega),if_neg (by simp; omega)]
  rw [e1,Option.bind_fun_some]
  exact zAI gN o h hk' x o1 o2 o3 (by omega)
theorem zAL:∀ (K:Nat) (Γ:Ctx) (N P:Nat) (c:Checker) (s:St8) (L:List Instr),COk Γ P→IWL L→wtL L+P+500≤K→wtL L<1000000000→Gd Γ (N+3 * wtL L)→Γ.fr.length+wtL L<1000000000→Γ.lb.length+wtL L<1000000000→Sim Γ N c s →
  ∃ c' s',zal K c L=some c'∧zaB K Γ.env s L=some s'∧Sim Γ (N+L.length) c' s':=by
 intro K
 induction K using Nat.strongRecOn with
 | _ K ihK => 
 intro Γ N P c s L o hw hK hW g hf hl h
 obtain ⟨k,rfl⟩:∃ k,K=k+4+1:=⟨K - 5,by omega⟩
 have hLn:=wtL_pos L
 rw [zAo (k+4) c L (by omega) (by omega),zzv (k+4) Γ.env s L (by omega) (by omega)]
 have key:∀ (M:List Instr) (N':Nat) (c:Checker) (s:St8),IWL M→wtL M≤wtL L→N'+3 * wtL M≤N+3 * wtL L→Sim Γ N' c s→∃ c' s',M.foldlM (stepC (k+4)) c=some c'∧M.foldlM (stepR' (k+4) Γ.env) s=some s'∧Sim Γ (N'+M.length) c' s':=by
  intro M
  induction M with
  | nil => intro N' c s _ _ _ h; exact ⟨c,s,rfl,rfl,h⟩
  | cons x M ihM => 
   intro N' c s hw hm hn h
   simp only [IWL] at hw
   simp only [wtL] at hm hn
   have hx:=wtI_eq x
   have hbp:=wtL_pos x.body
   have hep:=wtL_pos x.els
   have hMp:=wtL_pos M
   have hwb:IWL x.body∧IWL x.els:=by
    have:=hw.1
    cases x; simp only [IWI] at this; exact this.2.2
   have gun:=g.un
   have gI:∀ (B:List Instr),IWL B→wtL B+4≤wtI x+wtL M→IH Γ N' k B:=by
    intro B hB1 hB2 lab hlab l aw dd c s hll hs
    have:=ihK (k+2) (by omega) (Γ.sub l aw dd lab) 0 P c s B (o.sub l aw dd hlab) hB1 (by omega) (by omega)
     (by
      have g':Gd Γ (l.length+(0+3 * wtL B)):=g.mono (by omega)
      exact g'.sub (N:=0) (by omega) (by omega))
     (by simp only [Ctx.sub,List.length_append,List.length_cons,List.length_nil]; omega)
     (by simp only [Ctx.sub,List.length_append,List.length_cons,List.length_nil]; omega) hs
    rwa [Nat.zero_add] at this
   obtain ⟨c1,s1,e1,e2,h1⟩:=zAK (k:=k) o h x hw.1 (by omega) (g.mono (by omega)) (by omega) (by omega) (gI _ hwb.1 (by omega)) (gI _ hwb.2 (by omega))
   obtain ⟨c2,s2,e3,e4,h2⟩:=ihM (N'+1) c1 s1 hw.2 (by omega) (by omega) h1
   refine ⟨c2,s2,?_,?_,?_⟩
   ·rw [List.foldlM_cons,e1]; exact e3
   ·rw [List.foldlM_cons,e2]; exact e4
   ·rw [List.length_cons,show N'+(M.length+1)=N'+1+M.length by omega]; exact h2
 exact key L N c s hw (Nat.le_refl _) (Nat.le_refl _) h
instance (r:Int):Decidable (K2 r):=by unfold K2; infer_instance
theorem idxK {p:Int→Bool} {f:Int→Option Bool} (hf:∀ x,f x=some (p x)) (l:List Int) (hl:l.length<1000000000):∀ (k i:Nat),i≤l.length→l.length - i<k →
  ∃ j,zap k l f (i:Int)=some j∧decide (j≥0)=(l.drop i).any p:=by
 intro k
 induction k with
 | zero => intro i _ h; omega
 | succ k ih => 
  intro i h1 h2
  simp only [zap]
  by_cases h:i<l.length
  ·rw [if_pos (dltT h),zaC (by omega),hf,Option.bind_some,dropS l i h,List.any_cons]
   cases p (l.getD (i:Int).toNat default) with
   | true => exact ⟨(i:Int),by rw [if_pos rfl],by rw [Bool.true_or]; exact decide_eq_true (by omega)⟩
   | false => 
    rw [if_neg (by decide),wI_nat i (by omega),Bool.false_or]
    exact ih (i+1) h (by omega)
  ·rw [if_neg (dltF h),List.drop_of_length_le (by omega)]
   exact ⟨-1,rfl,rfl⟩
theorem containsK {p:Int→Bool} {f:Int→Option Bool} (hf:∀ x,f x=some (p x)) (l:List Int) (hl:l.length<1000000000) (K:Nat) (hK:l.length<K):zaq K l f=some (l.any p):=by
 unfold zaq zaK
 obtain ⟨j,h1,h2⟩:=idxK hf l hl K 0 (Nat.zero_le _) (by omega)
 rw [show (0:Int)=((0:Nat):Int) from rfl,h1,Option.bind_some]
 exact congrArg some h2
theorem idxG {p:Glo→Bool} {f:Glo→Option Bool} (hf:∀ x,f x=some (p x)) (l:List Glo) (hl:l.length<1000000000):∀ (k i:Nat),i≤l.length→l.length - i<k →
  ∃ j,zan k l f (i:Int)=some j∧decide (j≥0)=(l.drop i).any p:=by
 intro k
 induction k with
 | zero => intro i _ h; omega
 | succ k ih => 
  intro i h1 h2
  simp only [zan]
  by_cases h:i<l.length
  ·rw [if_pos (dltT h),zaC (by omega),hf,Option.bind_some,dropS l i h,List.any_cons]
   cases p (l.getD (i:Int).toNat default) with
   | true => exact ⟨(i:Int),by rw [if_pos rfl],by rw [Bool.true_or]; exact decide_eq_true (by omega)⟩
   | false => 
    rw [if_neg (by decide),wI_nat i (by omega),Bool.false_or]
    exact ih (i+1) h (by omega)
  ·rw [if_neg (dltF h),List.drop_of_length_le (by omega)]
   exact ⟨-1,rfl,rfl⟩
theorem containsG {p:Glo→Bool} {f:Glo→Option Bool} (hf:∀ x,f x=some (p x)) (l:List Glo) (hl:l.length<1000000000) (K:Nat) (hK:l.length<K):zas K l f=some (l.any p):=by
 unfold zas zaG
 obtain ⟨j,h1,h2⟩:=idxG hf l hl K 0 (Nat.zero_le _) (by omega)
 rw [show (0:Int)=((0:Nat):Int) from rfl,h1,Option.bind_some]
 exact congrArg some h2
theorem zyw (x:Int):zbk x=some (!decide (K2 x)):=by
 unfold zbk
 rw [Option.bind_fun_some,zAj,Option.bind_some]
 by_cases h0:x=0
 ·subst h0; rfl
 ·rw [if_neg (by simpa using h0)]
  have:K3 x↔K2 x:=by unfold K3 K2; omega
  by_cases h:K2 x
  ·rw [decide_eq_true h,decide_eq_true (this.2 h)]
  ·rw [decide_eq_false h,decide_eq_false (fun h' => h (this.1 h'))]
theorem none2_eq (x:Glo):zcd x=some (!decide (K2 x.kind)):=by
 unfold zcd
 rw [zyw,Option.bind_some]
theorem zyz (x:Int):zaO x false=some (decide (K2 x)):=by
 unfold zaO K2
 by_cases h1:x=127
 ·subst h1; rfl
 by_cases h2:x=126
 ·subst h2; rfl
 simp [h1,h2]
theorem kind3_eq (x:Int):zaO x true=some (decide (K3 x)):=by
 unfold zaO K3
 by_cases h1:x=127
 ·subst h1; rfl
 by_cases h2:x=126
 ·subst h2; rfl
 by_cases h3:x=0
 ·subst h3; rfl
 simp [h1,h2,h3]
def kT (t:Typ):Bool:=decide (K3 t.result)&&t.params.all fun x => decide (K2 x)
def kF (f:Fnc):Bool:=f.locals.all fun x => decide (K2 x)
def kG (g:Glo):Bool:=decide (K2 g.kind)
def kindsB (m:Mdl):Bool:=m.types.all kT&&(m.funcs.all kF&&m.globals.all kG)
structure MSz (S:Nat) (m:Mdl):Prop where
 S0:S<1000000000
 types:m.types.length<S
 typ:∀ t∈m.types,t.params.length<S
 funcs:m.funcs.length<S
 fnc:∀ f∈m.funcs,f.locals.length<S
 globals:m.globals.length<S
theorem zyR {α:Type} (p:α→Bool) (l:List α):(l.any fun x => !p x) = !l.all p:=by
 induction l with
 | nil => rfl
 | cons x l ih => rw [List.any_cons,List.all_cons,ih]; cases p x <;> rfl
theorem zzR {S K:Nat} {m:Mdl} (z:MSz S m) (hK:S≤K):∀ (k i:Nat),i≤m.funcs.length→m.funcs.length - i<k→zbK k K m (i:Int)=some ((m.funcs.drop i).all kF&&m.globals.all kG):=by
 intro k
 have s1:=z.S0; have s2:=z.funcs; have s3:=z.globals
 induction k with
 | zero => intro i _ h; omega
 | succ k ih => 
  intro i h1 h2
  simp only [zbK]
  by_cases h:i<m.funcs.length
  ·have s4:=z.fnc _ (getD_mem m.funcs i h)
   rw [if_pos (dltT h),zaC (by omega),containsK zyw _ (by omega) K (by omega),Option.bind_some,dropS m.funcs i h,List.all_cons,zyR]
   show (if (!kF (m.funcs.getD (i:Int).toNat default))=true then _ else _)=_
   cases kF (m.funcs.getD (i:Int).toNat default) with
   | false => rfl
   | true => 
    rw [if_neg (by decide),wI_nat i (by omega),Bool.true_and]
    exact ih (i+1) h (by omega)
  ·rw [if_neg (dltF h),List.drop_of_length_le (by omega),containsG none2_eq _ (by omega) K (by omega),Option.bind_some]
   rw [show (m.globals.any fun x => !decide (K2 x.kind)) = !m.globals.all kG from zyR kG m.globals,Bool.not_not]
   rfl
theorem zzS {S K:Nat} {m:Mdl} (z:MSz S m) (hK:S≤K):∀ (k i:Nat),i≤m.types.length→m.types.length - i<k→zbL k K m (i:Int)=some ((m.types.drop i).all kT&&(m.funcs.all kF&&m.globals.all kG)):=by
 intro k
 have s1:=z.S0; have s2:=z.types; have s3:=z.funcs
 induction k with
 | zero => intro i _ h; omega
 | succ k ih => 
  intro i h1 h2
  simp only [zbL]
  by_cases h:i<m.types.length
  ·have s4:=z.typ _ (getD_mem m.types i h)
   rw [if_pos (dltT h),zaC (by omega),zAj,Option.bind_some,containsK zyw _ (by omega) K (by omega),Option.bind_some,dropS m.types i h,List.all_cons,zyR]
   have e:(if (!decide (K3 (m.types.getD (i:Int).toNat default).result))=true then some true else some (!(m.types.getD (i:Int).toNat default).params.all fun x => decide (K2 x)))=some (!kT (m.types.getD (i:Int).toNat default)):=by
    unfold kT
    cases decide (K3 (m.types.getD (i:Int).toNat default).result) <;> rfl
   refine (congrArg (fun o => Option.bind o _) e).trans ?_
   rw [Option.bind_some]
   cases kT (m.types.getD (i:Int).toNat default) with
   | false => rfl
   | true => 
    rw [if_neg (by decide),wI_nat i (by omega),Bool.true_and]
    exact ih (i+1) h (by omega)
  ·rw [if_neg (dltF h),List.drop_of_length_le (by omega)]
   exact zzR z hK K 0 (Nat.zero_le _) (by omega)
theorem vkinds {S K:Nat} {m:Mdl} (z:MSz S m) (hK:S≤K):zeC K m=some (kindsB m):=by
 have:=z.types
 exact zzS z hK K 0 (Nat.zero_le _) (by omega)
theorem zAd {S:Nat} {m:Mdl} (z:MSz S m) (a:Nat) (ha:a<m.types.length):∀ (k i:Nat) (b:Bool),i≤(m.types.getD (a:Int).toNat default).params.length→(m.types.getD (a:Int).toNat default).params.length - i<k →
  zbD k m (a:Int) b (i:Int)=some (b&&((m.types.getD (a:Int).toNat default).params.drop i).all fun x => decide (K2 x)):=by
 intro k
 have s1:=z.S0; have s4:=z.typ _ (getD_mem m.types a ha)
 induction k with
 | zero => intro i b _ h; omega
 | succ k ih => 
  intro i b h1 h2
  simp only [zbD]
  rw [zaC (by omega)]
  by_cases h:i<(m.types.getD (a:Int).toNat default).params.length
  ·rw [if_pos (dltT h),dropS _ i h,List.all_cons]
   have e:(if b=true then gd (0≤(a:Int)∧(a:Int)<(m.types.length:Int)) (gd (0≤(i:Int)∧(i:Int)<((m.types.getD (a:Int).toNat default).params.length:Int)) ((zaO ((m.types.getD (a:Int).toNat default).params.getD (i:Int).toNat default) false).bind fun x55 => some x55)) else some false)=some (b&&decide (K2 ((m.types.getD (a:Int).toNat default).params.getD (i:Int).toNat default))):=by
    rw [zaC (by omega),zaC (by omega),zyz]
    cases b <;> rfl
   refine (congrArg (fun o => Option.bind o _) e).trans ?_
   rw [Option.bind_some,wI_nat i (by omega),ih (i+1) _ h (by omega),Bool.and_assoc]
  ·rw [if_neg (dltF h),List.drop_of_length_le (by omega)]
   simp
theorem zAe {S K:Nat} {m:Mdl} (z:MSz S m) (hK:S≤K):∀ (k i:Nat) (b:Bool),i≤m.types.length→m.types.length - i<k→zbM k K m b (i:Int)=some (b&&(m.types.drop i).all kT):=by
 intro k
 have s1:=z.S0; have s2:=z.types
 induction k with
 | zero => intro i b _ h; omega
 | succ k ih => 
  intro i b h1 h2
  simp only [zbM]
  by_cases h:i<m.types.length
  ·have s4:=z.typ _ (getD_mem m.types i h)
   rw [if_pos (dltT h),dropS _ i h,List.all_cons]
   have e:(if b=true then gd (0≤(i:Int)∧(i:Int)<(m.types.length:Int)) ((zaO (m.types.getD (i:Int).toNat default).result true).bind fun x45 => some x45) else some false)=some (b&&decide (K3 (m.types.getD (i:Int).toNat default).result)):=by
    rw [zaC (by omega),kind3_eq]
    cases b <;> rfl
   have e2:((if b=true then gd (0≤(i:Int)∧(i:Int)<(m.types.length:Int)) ((zaO (m.types.getD (i:Int).toNat default).result true).bind fun x45 => some x45) else some false).bind fun j47 => zbD K m (i:Int) j47 0)=some (b&&kT (m.types.getD (i:Int).toNat default)):=by
    rw [e,Option.bind_some]
    have:=zAd z i h K 0 (b&&decide (K3 (m.types.getD (i:Int).toNat default).result)) (Nat.zero_le _) (by omega)
    rw [show ((0:Nat):Int)=0 from rfl] at this
    rw [this,List.drop_zero,Bool.and_assoc]; rfl
   refine (congrArg (fun o => Option.bind o _) e2).trans ?_
   rw [Option.bind_some,wI_nat i (by omega),ih (i+1) _ h (by omega),Bool.and_assoc]
  ·rw [if_neg (dltF h),List.drop_of_length_le (by omega)]
   simp
theorem zAf {S:Nat} {m:Mdl} (z:MSz S m) (a:Nat) (ha:a<m.funcs.length):∀ (k i:Nat) (b:Bool),i≤(m.funcs.getD (a:Int).toNat default).locals.length→(m.funcs.getD (a:Int).toNat default).locals.length - i<k →
  zbN k m (a:Int) b (i:Int)=some (b&&((m.funcs.getD (a:Int).toNat default).locals.drop i).all fun x => decide (K2 x)):=by
 intro k
 have s1:=z.S0; have s4:=z.fnc _ (getD_mem m.funcs a ha)
 induction k with
 | zero => intro i b _ h; omega
 | succ k ih => 
  intro i b h1 h2
  simp only [zbN]
  rw [zaC (by omega)]
  by_cases h:i<(m.funcs.getD (a:Int).toNat default).locals.length
  ·rw [if_pos (dltT h),dropS _ i h,List.all_cons]
   have e:(if b=true then gd (0≤(a:Int)∧(a:Int)<(m.funcs.length:Int)) (gd (0≤(i:Int)∧(i:Int)<((m.funcs.getD (a:Int).toNat default).locals.length:Int)) ((zaO ((m.funcs.getD (a:Int).toNat default).locals.getD (i:Int).toNat default) false).bind fun x55 => some x55)) else some false)=some (b&&decide (K2 ((m.funcs.getD (a:Int).toNat default).locals.getD (i:Int).toNat default))):=by
    rw [zaC (by omega),zaC (by omega),zyz]
    cases b <;> rfl
   refine (congrArg (fun o => Option.bind o _) e).trans ?_
   rw [Option.bind_some,wI_nat i (by omega),ih (i+1) _ h (by omega),Bool.and_assoc]
  ·rw [if_neg (dltF h),List.drop_of_length_le (by omega)]
   simp
theorem zAg {S K:Nat} {m:Mdl} (z:MSz S m) (hK:S≤K):∀ (k i:Nat) (b:Bool),i≤m.funcs.length→m.funcs.length - i<k→zbO k K m b (i:Int)=some (b&&(m.funcs.drop i).all kF):=by
 intro k
 have s1:=z.S0; have s2:=z.funcs
 induction k with
 | zero => intro i b _ h; omega
 | succ k ih => 
  intro i b h1 h2
  simp only [zbO]
  by_cases h:i<m.funcs.length
  ·have s4:=z.fnc _ (getD_mem m.funcs i h)
   have:=zAf z i h K 0 b (Nat.zero_le _) (by omega)
   rw [show ((0:Nat):Int)=0 from rfl] at this
   rw [if_pos (dltT h),dropS _ i h,List.all_cons,this,Option.bind_some,wI_nat i (by omega),ih (i+1) _ h (by omega),Bool.and_assoc,List.drop_zero]
   rfl
  ·rw [if_neg (dltF h),List.drop_of_length_le (by omega)]
   simp
theorem zAh {S:Nat} {m:Mdl} (z:MSz S m):∀ (k i:Nat) (b:Bool),i≤m.globals.length→m.globals.length - i<k→zbP k m b (i:Int)=some (b&&(m.globals.drop i).all kG):=by
 intro k
 have s1:=z.S0; have s2:=z.globals
 induction k with
 | zero => intro i b _ h; omega
 | succ k ih => 
  intro i b h1 h2
  simp only [zbP]
  by_cases h:i<m.globals.length
  ·rw [if_pos (dltT h),dropS _ i h,List.all_cons]
   have e:(if b=true then gd (0≤(i:Int)∧(i:Int)<(m.globals.length:Int)) ((zaO (m.globals.getD (i:Int).toNat default).kind false).bind fun x45 => some x45) else some false)=some (b&&kG (m.globals.getD (i:Int).toNat default)):=by
    rw [zaC (by omega),zyz]
    cases b <;> rfl
   refine (congrArg (fun o => Option.bind o _) e).trans ?_
   rw [Option.bind_some,wI_nat i (by omega),ih (i+1) _ h (by omega),Bool.and_assoc]
  ·rw [if_neg (dltF h),List.drop_of_length_le (by omega)]
   simp
theorem rkinds {S K:Nat} {m:Mdl} (z:MSz S m) (hK:S≤K):zeb K m=some (kindsB m):=by
 have s2:=z.types; have s3:=z.funcs; have s4:=z.globals
 unfold zeb
 have e3:=zAe z hK K 0 true (Nat.zero_le _) (by omega)
 have e1:=zAg z hK K 0 (true&&(m.types.drop 0).all kT) (Nat.zero_le _) (by omega)
 have e0:=zAh z K 0 ((true&&(m.types.drop 0).all kT)&&(m.funcs.drop 0).all kF) (Nat.zero_le _) (by omega)
 rw [show ((0:Nat):Int)=0 from rfl] at e3 e1 e0
 rw [e3,Option.bind_some,e1,Option.bind_some,e0,Option.bind_some]
 simp only [List.drop_zero,Bool.true_and,kindsB,Bool.and_assoc]
theorem concat2 (K:Nat) (hK:3≤K) (a b:List Int) (ha:a.length<1000000000) (hb:b.length<1000000000):zaI K [a,b]=some (a++b):=by
 obtain ⟨k,rfl⟩:∃ k,K=k+3:=⟨K - 3,by omega⟩
 have w0:wI (0+1)=1:=by decide
 have w1:wI (1+1)=2:=by decide
 have q1:wI (0+(a.length:Int))=(a.length:Int):=by rw [wI_small (by omega) (by omega)]; omega
 have q2:wI ((a.length:Int)+(b.length:Int))=(a.length:Int)+(b.length:Int):=wI_small (by omega) (by omega)
 have l1:zav (k+3) [a,b] 0 0=some ((a.length:Int)+(b.length:Int)):=by
  simp only [zav]
  show (if decide ((0:Int)<2)=true then (gd (0≤(0:Int)∧(0:Int)<2) (if decide (wI (0+(a.length:Int))<0)=true then none else some ())).bind _ else _)=_
  rw [if_pos (by decide),zaC (by decide),q1,if_neg (by simp <;> omega),Option.bind_some,w0]
  show (if decide ((1:Int)<2)=true then (gd (0≤(1:Int)∧(1:Int)<2) (if decide (wI (wI (0+(a.length:Int))+(b.length:Int))<0)=true then none else some ())).bind _ else _)=_
  rw [if_pos (by decide),zaC (by decide),q1,q2,if_neg (by simp <;> omega),Option.bind_some,w1]
  show (if decide ((2:Int)<2)=true then _ else some (wI (wI (0+(a.length:Int))+(b.length:Int))))=_
  rw [if_neg (by decide),q1,q2]
 have l0:zaw (k+3) [a,b] [] 0=some (a++b):=by
  simp only [zaw]
  show (if decide ((0:Int)<2)=true then (gd (0≤(0:Int)∧(0:Int)<2) (gd ((0+a.length) * 1≤140737488355328) _)) else _)=_
  rw [if_pos (by decide),zaC (by decide),zaC (by omega),w0]
  show (if decide ((1:Int)<2)=true then (gd (0≤(1:Int)∧(1:Int)<2) (gd ((a.length+b.length) * 1≤140737488355328) _)) else _)=_
  rw [if_pos (by decide),zaC (by decide),zaC (by omega),w1]
  rfl
 unfold zaI
 rw [l1,Option.bind_some,zaC (by omega),l0]
 rfl
theorem zAw {S K:Nat} {m:Mdl} (z:MSz S m) (f:Int) (hI:∀ fn∈m.funcs,IWL fn.body∧wtL fn.body+S+600≤K∧0≤fn.type_) (hK:S+600≤K) (hK2:K<1000000000) :
  ∃ e mo,zeu K m f=some e∧zdt K m f=some (mo,e)∧zdR K m f=some (e.getD 0,mo):=by
 have s1:=z.S0; have s2:=z.types; have s3:=z.funcs
 have main:∃ (c:Option Checker) (e:Option Int) (mo:Int),zcZ K m f=some (c,e)∧((e.isNone=false∧mo=0)∨(e=none∧∃ c',c=some c'∧c'.most=mo))∧zdR K m f=some (e.getD 0,mo):=by
  unfold zcZ zdR
  rw [vkinds z (by omega),rkinds z (by omega),Option.bind_some]
  by_cases hf:inb f m.funcs.length
  rotate_left
  ·have:(if (decide (f<(0:Int)))=true then some true else (if (decide (f≥(m.funcs.length:Int)))=true then some true else gd (0≤f∧f<(m.funcs.length:Int)) (if (decide (((m.funcs.getD f.toNat default).type_)≥(IntKind.wrap .u32 (m.types.length:Int))))=true then some true else some (!kindsB m))))=some true:=by
    by_cases h0:f<0
    ·rw [if_pos (by simpa using h0)]
    ·rw [if_neg (by simpa using h0),if_pos (by unfold inb at hf; simp; omega)]
   rw [this,Option.bind_some,Option.bind_some,if_pos rfl,if_pos rfl]
   exact ⟨_,_,_,rfl,.inl ⟨rfl,rfl⟩,rfl⟩
  have hf':=hf
  unfold inb at hf'
  have hm:=getD_memI hf
  obtain ⟨hw,hwt,hty⟩:=hI _ hm
  have s5:=z.fnc _ hm
  have eu:IntKind.wrap .u32 (m.types.length:Int)=(m.types.length:Int):=by rw [IntKind.wrap_u32]; omega
  rw [if_neg (by simp; omega),if_neg (by simp; omega),gdI hf,eu]
  by_cases ht:(m.funcs.getD f.toNat default).type_≥(m.types.length:Int)
  ·rw [if_pos (by simpa using ht),Option.bind_some,Option.bind_some,if_pos rfl,if_pos rfl]
   exact ⟨_,_,_,rfl,.inl ⟨rfl,rfl⟩,rfl⟩
  rw [if_neg (by simpa using ht),Option.bind_some,Option.bind_some]
  cases hk:kindsB m with
  | false => 
   rw [if_pos (by rfl),if_pos (by rfl)]
   exact ⟨_,_,_,rfl,.inl ⟨rfl,rfl⟩,rfl⟩
  | true => 
  rw [if_neg (by decide),if_neg (by decide)]
  by_cases ht0:0≤(m.funcs.getD f.toNat default).type_
  rotate_left
  ·exact absurd hty ht0
  have hti:inb (m.funcs.getD f.toNat default).type_ m.types.length:=⟨ht0,by omega⟩
  have hmt:=getD_memI hti
  have s6:=z.typ _ hmt
  unfold kindsB at hk
  simp only [Bool.and_eq_true,List.all_eq_true] at hk
  obtain ⟨k1,k2,k3⟩:=hk
  have kt:∀ t∈m.types,TOk (S+10) t:=fun t h => by
   have:=k1 t h
   unfold kT at this
   simp only [Bool.and_eq_true,List.all_eq_true,decide_eq_true_eq] at this
   exact ⟨this.2,this.1,by have:=z.typ t h; omega⟩
  have o:COk (Ctx.mk m (m.types.getD (m.funcs.getD f.toNat default).type_.toNat default) ((m.types.getD (m.funcs.getD f.toNat default).type_.toNat default).params++(m.funcs.getD f.toNat default).locals) [] [] [(m.types.getD (m.funcs.getD f.toNat default).type_.toNat default).result]) (S+10):=
   ⟨kt,fun g h => by have:=k3 g h; unfold kG at this; exact of_decide_eq_true this,fun x hx => by
    rcases List.mem_append.1 hx with hx | hx
    ·exact (kt _ hmt).1 x hx
    ·have:=k2 _ hm
     unfold kF at this
     rw [List.all_eq_true] at this
     exact of_decide_eq_true (this x hx),fun x hx => by
    obtain rfl:x=(m.types.getD (m.funcs.getD f.toNat default).type_.toNat default).result:=by simpa using hx
    exact (kt _ hmt).2.1,(kt _ hmt).2.1,by omega,by omega⟩
  have hwl:=wtL_pos (m.funcs.getD f.toNat default).body
  have s0:Sim (Ctx.mk m (m.types.getD (m.funcs.getD f.toNat default).type_.toNat default) ((m.types.getD (m.funcs.getD f.toNat default).type_.toNat default).params++(m.funcs.getD f.toNat default).locals) [] [] [(m.types.getD (m.funcs.getD f.toNat default).type_.toNat default).result]) 0
    (Checker.mk m (m.types.getD (m.funcs.getD f.toNat default).type_.toNat default) ((m.types.getD (m.funcs.getD f.toNat default).type_.toNat default).params++(m.funcs.getD f.toNat default).locals) [] [Frame.mk 0 false false] [(m.types.getD (m.funcs.getD f.toNat default).type_.toNat default).result] 0 false) (St8.mk [] 0 false false 0 true):=
   .inl ⟨[],false,false,0,(fun x hx => by cases hx),Nat.le_refl 0,rfl,rfl⟩
  have gg:∀ N,N<999999999999→Gd (Ctx.mk m (m.types.getD (m.funcs.getD f.toNat default).type_.toNat default) ((m.types.getD (m.funcs.getD f.toNat default).type_.toNat default).params++(m.funcs.getD f.toNat default).locals) [] [] [(m.types.getD (m.funcs.getD f.toNat default).type_.toNat default).result]) N:=fun N h => 
   ⟨by show 0+N<_; omega,(by decide:0<1000000000),(by decide:1<1000000000)⟩
  obtain ⟨c1,r1,e1,e2,h1⟩:=zAL K _ 0 (S+10) _ _ (m.funcs.getD f.toNat default).body o hw (by omega) (by omega) (gg _ (by omega)) (by show 0+_<_; omega) (by show 1+_<_; omega) s0
  obtain ⟨v,c2,v',r2,e3,e4,h2,_⟩:=zbI (gg _ (by omega)) h1 (Vk.of3 (kt _ hmt).2.1)
  have e2':zaB K (Env8.mk m (m.types.getD (m.funcs.getD f.toNat default).type_.toNat default).result ((m.types.getD (m.funcs.getD f.toNat default).type_.toNat default).params++(m.funcs.getD f.toNat default).locals) [(m.types.getD (m.funcs.getD f.toNat default).type_.toNat default).result]) (St8.mk [] 0 false false 0 true) (m.funcs.getD f.toNat default).body=some r1:=e2
  rw [gdI hf,gdI hti,gdI hf,concat2 K (by omega) _ _ (by omega) (by omega),Option.bind_some,gdI hf,e1,Option.bind_some,e3,Option.bind_some]
  rw [gdI hf,gdI hti,zaC (by omega),gdI hf,zaC (by omega),gdI hf,e2',Option.bind_some,e4,Option.bind_some]
  rcases h2 with ⟨l,aw,dd,mo,q1,q2,rfl,rfl⟩ | ⟨⟨l,aw,dd,mo,q1,rfl⟩,q2,q3⟩
  ·by_cases hl:l.length=0
   ·have:l=[]:=List.length_eq_zero_iff.1 hl
    subst this
    exact ⟨_,none,mo,rfl,.inr ⟨rfl,_,rfl,rfl⟩,rfl⟩
   ·refine ⟨none,some 7,0,?_,.inl ⟨rfl,rfl⟩,?_⟩
    ·rw [if_pos ?_]
     show (false||decide ((([]++l.map fk:List Int).length:Int)>0))=true
     rw [Bool.false_or]
     exact decide_eq_true (by simp; omega)
    ·rw [if_pos ?_]; rfl
     show (false||decide ((l.length:Int)>0))=true
     rw [Bool.false_or]
     exact decide_eq_true (by omega)
  ·refine ⟨none,some 7,0,by rw [if_pos (by rfl)],.inl ⟨rfl,rfl⟩,?_⟩
   rw [if_pos (by rw [q2]; rfl)]; rfl
 obtain ⟨c,e,mo,h1,h2,h3⟩:=main
 refine ⟨e,mo,?_,?_,h3⟩
 ·unfold zeu
  rw [h1]; rfl
 ·unfold zdt
  rw [h1,Option.bind_some]
  rcases h2 with ⟨a,rfl⟩ | ⟨rfl,c',rfl,rfl⟩
  ·rw [if_pos (by rw [a]; rfl)]
  ·rfl
theorem zzk:∀ (K:Nat) (l:List Instr) (p1 p2:Int),wtL l<K→wtL l<1000000000→∃ v,zax K l p1 p2=some v:=by
 intro K
 induction K with
 | zero => intro l _ _ h; omega
 | succ k ih => 
  intro l p1 p2 h hs
  have hw:=wtL_pos l
  simp only [zax]
  rw [Option.bind_fun_some]
  split
  ·exact ⟨_,rfl⟩
  have key:∀ (q i:Nat) (n:Int),i≤l.length→l.length - i<q→∃ v,lpN q (fun (rec6:Int×Int→Option (Int)) v => match v with | (a4,a5) => (if ((decide (a5<(l.length:Int)))&&(decide (a4<p1)))=true then gd (0≤a5∧a5<(l.length:Int)) (gd (0≤a5∧a5<(l.length:Int)) ((zax k ((l.getD a5.toNat default).body) p1 (wI (p2+1))).bind fun x9 => gd (0≤a5∧a5<(l.length:Int)) ((zax k ((l.getD a5.toNat default).els) p1 (wI (p2+1))).bind fun x12 => rec6 ((wI ((wI ((wI (a4+(mnI (((l.getD a5.toNat default).labels).length:Int) p1)))+x9))+x12)),(wI (a5+1)))))) else some a4)) (n,(i:Int))=some v:=by
   intro q
   induction q with
   | zero => intro i n _ h; omega
   | succ q ihq => 
    intro i n h1 h2
    simp only [lpN]
    by_cases h:i<l.length
    ·by_cases hn:n<p1
     ·have hm:=getD_mem l i h
      have hx:=wtL_mem hm
      rw [wtI_eq] at hx
      rw [if_pos (by rw [dltT h,decide_eq_true hn]; rfl),zaC (by omega),zaC (by omega)]
      obtain ⟨v1,e1⟩:=ih (l.getD (i:Int).toNat default).body p1 (wI (p2+1)) (by omega) (by omega)
      obtain ⟨v2,e2⟩:=ih (l.getD (i:Int).toNat default).els p1 (wI (p2+1)) (by omega) (by omega)
      rw [e1,Option.bind_some,zaC (by omega),e2,Option.bind_some,wI_nat i (by omega)]
      exact ihq (i+1) _ h (by omega)
     ·rw [if_neg (by rw [decide_eq_false hn,Bool.and_false]; decide)]
      exact ⟨_,rfl⟩
    ·rw [if_neg (by rw [Bool.and_eq_true]; intro hh; exact dltF h hh.1)]
     exact ⟨_,rfl⟩
  exact key k 0 _ (Nat.zero_le _) (by omega)
theorem zCo {K:Nat} {m:Mdl} (o:GvOk K m):∀ k (i:Nat) (n:Int),i≤m.types.length→m.types.length - i<k→∃ v,zbq k m n (i:Int)=some v:=by
 intro k
 have:=o.K0; have:=o.types
 induction k with
 | zero => intro i _ _ h; omega
 | succ k ih => 
  intro i n h1 h2
  simp only [zbq]
  by_cases h:i<m.types.length
  ·rw [if_pos (dltT h),zaC (by omega),wI_nat i (by omega)]
   exact ih (i+1) _ h (by omega)
  ·rw [if_neg (dltF h)]; exact ⟨_,rfl⟩
theorem zCp {K:Nat} {m:Mdl} (o:GvOk K m):∀ k (i:Nat) (n:Int),i≤m.funcs.length→m.funcs.length - i<k→∃ v,zbr k K m n (i:Int)=some v:=by
 intro k
 have:=o.K0; have:=o.funcs
 induction k with
 | zero => intro i _ _ h; omega
 | succ k ih => 
  intro i n h1 h2
  simp only [zbr]
  by_cases h:i<m.funcs.length
  ·have hf:=(o.fnc _ (getD_mem m.funcs i h)).2
   obtain ⟨v,e⟩:=zzk K (m.funcs.getD (i:Int).toNat default).body 3000 0 hf (by omega)
   rw [if_pos (dltT h),zaC (by omega),zaC (by omega),e,Option.bind_some,wI_nat i (by omega)]
   exact ih (i+1) _ h (by omega)
  ·rw [if_neg (dltF h)]; exact ⟨_,rfl⟩
theorem zCq {K:Nat} {m:Mdl} (o:GvOk K m):∀ k (i:Nat) (n:Int),i≤m.exports.length→m.exports.length - i<k→∃ v,zbs k m n (i:Int)=some v:=by
 intro k
 have:=o.K0; have:=o.exports
 induction k with
 | zero => intro i _ _ h; omega
 | succ k ih => 
  intro i n h1 h2
  simp only [zbs]
  by_cases h:i<m.exports.length
  ·rw [if_pos (dltT h),zaC (by omega),wI_nat i (by omega)]
   exact ih (i+1) _ h (by omega)
  ·rw [if_neg (dltF h)]; exact ⟨_,rfl⟩
theorem wt1 (x:Instr):wtL [x]=wtI x+1:=by simp [wtL]
theorem zCr {K:Nat} {m:Mdl} (o:GvOk K m):∀ k (i:Nat) (n:Int),i≤m.elems.length→m.elems.length - i<k→∃ v,zbt k K m n (i:Int)=some v:=by
 intro k
 have:=o.K0; have:=o.elems
 induction k with
 | zero => intro i _ _ h; omega
 | succ k ih => 
  intro i n h1 h2
  simp only [zbt]
  by_cases h:i<m.elems.length
  ·have hf:=o.ele _ (getD_mem m.elems i h)
   obtain ⟨v,e⟩:=zzk K [(m.elems.getD (i:Int).toNat default).offset] 3000 0 (by rw [wt1]; omega) (by rw [wt1]; omega)
   rw [if_pos (dltT h),zaC (by omega),zaC (by omega),e,Option.bind_some,wI_nat i (by omega)]
   exact ih (i+1) _ h (by omega)
  ·rw [if_neg (dltF h)]; exact ⟨_,rfl⟩
theorem zCs {K:Nat} {m:Mdl} (o:GvOk K m):∀ k (i:Nat) (n:Int),i≤m.datas.length→m.datas.length - i<k→∃ v,zbu k K m n (i:Int)=some v:=by
 intro k
 have:=o.K0; have:=o.datas
 induction k with
 | zero => intro i _ _ h; omega
 | succ k ih => 
  intro i n h1 h2
  simp only [zbu]
  by_cases h:i<m.datas.length
  ·have hf:=o.dat _ (getD_mem m.datas i h)
   obtain ⟨v,e⟩:=zzk K [(m.datas.getD (i:Int).toNat default).offset] 3000 0 (by rw [wt1]; omega) (by rw [wt1]; omega)
   rw [if_pos (dltT h),zaC (by omega),zaC (by omega),e,Option.bind_some,wI_nat i (by omega)]
   exact ih (i+1) _ h (by omega)
  ·rw [if_neg (dltF h)]; exact ⟨_,rfl⟩
theorem zCt {K:Nat} {m:Mdl} (o:GvOk K m):∀ k (i:Nat) (n:Int),i≤m.globals.length→m.globals.length - i<k→∃ v,zbv k K m n (i:Int)=some v:=by
 intro k
 have:=o.K0; have:=o.globals
 induction k with
 | zero => intro i _ _ h; omega
 | succ k ih => 
  intro i n h1 h2
  simp only [zbv]
  by_cases h:i<m.globals.length
  ·have hf:=o.glo _ (getD_mem m.globals i h)
   obtain ⟨v,e⟩:=zzk K [(m.globals.getD (i:Int).toNat default).init_] 3000 0 (by rw [wt1]; omega) (by rw [wt1]; omega)
   rw [if_pos (dltT h),zaC (by omega),e,Option.bind_some,wI_nat i (by omega)]
   exact ih (i+1) _ h (by omega)
  ·rw [if_neg (dltF h)]; exact ⟨_,rfl⟩
theorem zBV {K:Nat} {m:Mdl} (o:GvOk K m):∃ b,zcf K m=some b:=by
 unfold zcf
 split
 ·exact ⟨_,rfl⟩
 obtain ⟨v5,e5⟩:=zCo o K 0 0 (Nat.zero_le _) (by have:=o.types; omega)
 obtain ⟨v4,e4⟩:=zCp o K 0 v5 (Nat.zero_le _) (by have:=o.funcs; omega)
 obtain ⟨v3,e3⟩:=zCq o K 0 v4 (Nat.zero_le _) (by have:=o.exports; omega)
 obtain ⟨v2,e2⟩:=zCr o K 0 v3 (Nat.zero_le _) (by have:=o.elems; omega)
 obtain ⟨v1,e1⟩:=zCs o K 0 v2 (Nat.zero_le _) (by have:=o.datas; omega)
 obtain ⟨v0,e0⟩:=zCt o K 0 v1 (Nat.zero_le _) (by have:=o.globals; omega)
 rw [show ((0:Nat):Int)=0 from rfl] at e5 e4 e3 e2 e1 e0
 rw [e5,Option.bind_some,e4,Option.bind_some,e3,Option.bind_some,e2,Option.bind_some,e1,Option.bind_some,e0,Option.bind_some]
 exact ⟨_,rfl⟩
theorem scM_gvK {K:Nat} (hK:1000≤K) (hK2:K<1000000000) (ps:List Int) (r:Int) (b:List Instr) (hp:ps.length<K) (hb:wtL b<K):GvOk K (scM ps r b):=by
 refine ⟨hK2,by show 3<K; omega,?_,by show 3<K; omega,?_,by show 1<K; omega,by show 1<K; omega,by show 2<K; omega,?_,by show 0<K; omega,by show 0<K; omega,fun e h => (by cases h),by show 0<K; omega,fun e h => (by cases h)⟩
 ·intro t ht
  rcases List.mem_cons.1 ht with rfl | ht
  ·exact hp
  rcases List.mem_cons.1 ht with rfl | ht
  ·show 1<K; omega
  rcases List.mem_cons.1 ht with rfl | ht
  ·show 0<K; omega
  cases ht
 ·intro t ht
  rcases List.mem_cons.1 ht with rfl | ht
  ·exact ⟨by show 2<K; omega,hb⟩
  rcases List.mem_cons.1 ht with rfl | ht
  ·exact ⟨by show 0<K; omega,Nat.lt_of_lt_of_le (by decide:wtL [Instr.mk 66 0 0 0 0 [] [] []]<1000) hK⟩
  rcases List.mem_cons.1 ht with rfl | ht
  ·exact ⟨by show 0<K; omega,Nat.lt_of_lt_of_le (by decide:wtL []<1000) hK⟩
  cases ht
 ·intro t ht
  rcases List.mem_cons.1 ht with rfl | ht
  ·exact Nat.lt_of_lt_of_le (by decide:wtI (Instr.mk 65 0 0 0 0 [] [] [])+1<1000) hK
  rcases List.mem_cons.1 ht with rfl | ht
  ·exact Nat.lt_of_lt_of_le (by decide:wtI (Instr.mk 66 0 0 0 0 [] [] [])+1<1000) hK
  cases ht
theorem scM_sz {S:Nat} (hS:10≤S) (hS2:S<1000000000) (ps:List Int) (r:Int) (b:List Instr) (hp:ps.length<S):MSz S (scM ps r b):=by
 refine ⟨hS2,by show 3<S; omega,?_,by show 3<S; omega,?_,by show 2<S; omega⟩
 ·intro t ht
  rcases List.mem_cons.1 ht with rfl | ht
  ·exact hp
  rcases List.mem_cons.1 ht with rfl | ht
  ·show 1<S; omega
  rcases List.mem_cons.1 ht with rfl | ht
  ·show 0<S; omega
  cases ht
 ·intro t ht
  rcases List.mem_cons.1 ht with rfl | ht
  ·show 2<S; omega
  rcases List.mem_cons.1 ht with rfl | ht
  ·show 0<S; omega
  rcases List.mem_cons.1 ht with rfl | ht
  ·show 0<S; omega
  cases ht
theorem zBo (e:Option Int):zhD e=some (e.getD 0):=rfl
theorem zyN (ps:List Int) (r:Int) (b:List Instr) (S K:Nat) (hw:IWL b) (hp:ps.length<S) (hS:100≤S) (hb:wtL b+S+1000≤K) (hK:K<1000000000):zcj K ps r b=some true:=by
 have gv:GvOk K (scM ps r b):=scM_gvK (by omega) hK ps r b (by omega) (by omega)
 unfold zcj
 obtain ⟨bg,e1⟩:=zBV gv
 rw [scM_eq,Option.bind_some,e1,Option.bind_some]
 cases bg with
 | true => rfl
 | false => 
  rw [if_neg (by decide),giveModule_id gv,Option.bind_some]
  have hI:∀ fn∈(scM ps r b).funcs,IWL fn.body∧wtL fn.body+S+600≤K∧0≤fn.type_:=by
   intro t ht
   rcases List.mem_cons.1 ht with rfl | ht
   ·exact ⟨hw,by show wtL b+S+600≤K; omega,Int.le_refl 0⟩
   rcases List.mem_cons.1 ht with rfl | ht
   ·refine ⟨by simp [IWL,IWI],?_,by show (0:Int)≤1; decide⟩
    have:wtL [Instr.mk 66 0 0 0 0 [] [] []]=6:=by decide
    show wtL [Instr.mk 66 0 0 0 0 [] [] []]+S+600≤K
    omega
   rcases List.mem_cons.1 ht with rfl | ht
   ·refine ⟨by simp [IWL],?_,by show (0:Int)≤2; decide⟩
    have:wtL []=1:=by decide
    show wtL []+S+600≤K
    omega
   cases ht
  obtain ⟨e,mo,h1,h2,h3⟩:=zAw (scM_sz (by omega) (by omega) ps r b hp) 0 hI (by omega) hK
  rw [h2,Option.bind_some,h3,Option.bind_some,zBo,Option.bind_some]
  show ((if (e.getD 0==e.getD 0)=true then (if (mo==mo)=true then _ else some false) else some false).bind fun j21 => some j21)=some true
  rw [if_pos (by simp),if_pos (by simp),h1,Option.bind_some,zBo,Option.bind_some]
  show ((if (e.getD 0==e.getD 0)=true then _ else some false).bind fun j21 => some j21)=some true
  rw [if_pos (by simp)]
  rfl
end Go.Proofs.YtablleokoifolaaGreatDoor
set_option linter.unusedVariables false
set_option linter.unusedSimpArgs false
namespace Go.Proofs.YtablleokoifolaaGreatDoor
open Go Go.ChangeShapes Go.RowKit Go.Deep
section
variable {H:Type} {enc:TypeId×Value→H} {E:Env} {W:World}
def old (W:World) (b:Nat):Prop:=b<W.heap.size
def Rd (enc:TypeId×Value→H) (E:Env) (W:World) {α:Type} (t:TypeId) (en:α→List FV) (wf:α→Prop) (n:Nat):Prop:=
 ∀ (base:Nat) (sp:Nat→Bool) (hd:Bool) (cs:List Value) (x:DataW H×List MemPlace),DataW.trod enc E.P W base sp hd n t cs=some x →
  ∃ a,wf a∧cs.length=(en a).length∧∀ j,j<cs.length→RVF E W.heap (old W) (toA ((en a).getD j .undef)) (cs.getD j Go.undef)
theorem zBy {t:TypeId} {k:IntKind} (ht:E.P.underlying t=some (.int k)) (n:Nat):Rd enc E W t (eI k) (fun x => (Lit.int k x).wf=true) n:=by
 intro base sp hd cs x h
 obtain ⟨b,rfl,_,hw⟩:=DataW.trod_int ht h
 refine ⟨b,hw,rfl,fun j hj => ?_⟩
 obtain rfl:j=0:=by simp at hj; omega
 exact .int k b
theorem toA_sV {α:Type} [Inhabited α] (en:α→List FV) (l:List α):toA (sV en l)=.slv ((List.range l.length).map fun i => (en (l.getD i default)).map toA):=by
 simp only [sV,toA,fl,toAL_map]
end
theorem mapM_ext {α β:Type} {f g:α→Option β}:∀ {l:List α} {ys:List β},l.mapM f=some ys→(∀ a,a∈l→∀ y,f a=some y→y∈ys→g a=some y)→l.mapM g=some ys
 | [],ys,h,_ => by simpa using h
 | a :: l,ys,h,hg => by
  rw [List.mapM_cons] at h ⊢
  cases hfa:f a with
  | none => rw [hfa] at h; cases h
  | some y => 
   rw [hfa] at h
   cases hl:l.mapM f with
   | none => rw [hl] at h; cases h
   | some zs => 
    rw [hl] at h
    obtain rfl:y :: zs=ys:=Option.some.inj h
    rw [hg a (by simp) y hfa (by simp),mapM_ext hl fun b hb z hz hm => hg b (by simp [hb]) z hz (by simp [hm])]
    rfl
def TyOk (P:Program) (T:TypeId→Prop):Prop:=
 ∀ t,T t→P.underlying t=some .bool∨(∃ k,P.underlying t=some (.int k))∨P.underlying t=some .string∨(∃ e,P.underlying t=some (.slice e)∧T e∧0<P.cellsOf e)∨∃ fs,P.underlying t=some (.struct fs)∧∀ f∈fs.toList,T f.type
section
variable {H:Type} {enc:TypeId×Value→H} {P:Program} {W W':World}
theorem zAu (hs:∀ b,b<W.heap.size→W'.heap[b]? = W.heap[b]?) {base:Nat} {a:Addr} {n:Nat} {cs:List Value} (h:W.cells? base a n=some cs):W'.cells? base a n=some cs:=by
 unfold World.cells? at h ⊢
 split
 ·rename_i hb
  rw [if_pos hb] at h
  refine mapM_ext h fun i _ y hy _ => ?_
  unfold World.cell? at hy ⊢
  split at hy
  ·rename_i C T fr hh
   rw [hs _ (Array.getElem?_eq_some_iff.1 hh).1,hh]
   exact hy
  ·cases hy
 ·rename_i hb; rw [if_neg hb] at h; exact h
theorem zAD {T:TypeId→Prop} (hT:TyOk P T) (hs:∀ b,b<W.heap.size→W'.heap[b]? = W.heap[b]?) {base:Nat} {hd:Bool} {sp:Nat→Bool}:∀ (n:Nat) (t:TypeId) (cs:List Value) (x:DataW H×List MemPlace),T t →
  DataW.trod enc P W base (fun _ => true) hd n t cs=some x→(∀ p∈x.2,sp p.block=true)→DataW.trod enc P W' base sp hd n t cs=some x:=by
 intro n
 induction n with
 | zero => intro t cs x _ h; cases h
 | succ n ih => 
  intro t cs x ht h hp
  have sub:∀ e,T e→∀ (a:Addr) (m:Nat) (y:DataW H×List MemPlace),(W.cells? base a m).bind (DataW.trod enc P W base (fun _ => true) hd n e)=some y→(∀ p∈y.2,sp p.block=true) →
    (W'.cells? base a m).bind (DataW.trod enc P W' base sp hd n e)=some y:=by
   intro e he a m y hy hyp
   obtain ⟨cs',h1,h2⟩:=Option.bind_eq_some_iff.1 hy
   rw [zAu hs h1]
   exact ih e cs' y he h2 hyp
  rcases hT t ht with hu | ⟨k,hu⟩ | hu | ⟨e,hu,he,hpos⟩ | ⟨fs,hu,hfs⟩
  ·obtain ⟨b,rfl,rfl⟩:=DataW.trod_bool hu h
   simp [DataW.trod,hu]
  ·obtain ⟨z,rfl,rfl,hw⟩:=DataW.trod_int hu h
   simp [DataW.trod,hu,hw]
  ·obtain ⟨z,rfl,rfl,hw⟩:=DataW.trod_string hu h
   simp [DataW.trod,hu,hw]
  ·have h0:=h
   unfold DataW.trod at h ⊢
   rw [hu] at h ⊢
   rcases DataW.trod_slice hu h0 with ⟨rfl,rfl⟩ | ⟨a,len,cap,el0,re0,n',hn,rfl,hx,hb,hl,hm,hlen,-,hsp,-⟩
   ·rfl
   ·simp only at h ⊢
    rw [if_pos ⟨hb,hl,hm⟩] at h ⊢
    simp only [Option.bind_eq_some_iff,Option.map_eq_some_iff,if_true] at h
    obtain ⟨elems,h1,rest,h2,h3⟩:=h
    have hsa:cap - len≠0∨cap - len=0:=by omega
    have hpe:∀ y∈elems++rest,∀ p∈y.2,sp p.block=true:=by
     intro y hy p hpy
     refine hp p ?_
     rw [← h3]
     exact List.mem_append_right _ (List.mem_flatMap.2 ⟨y,hy,hpy⟩)
    have e1:=mapM_ext (g:=fun i => (W'.cells? base (a.add (i * P.cellsOf e)) (P.cellsOf e)).bind (DataW.trod enc P W' base sp hd n e)) h1 fun i _ y hy hm => sub e he _ _ y hy (hpe y (List.mem_append_left _ hm))
    rw [e1,Option.bind_some]
    have e2:(if sp a.block=true then (List.range (cap - len)).mapM fun j => (W'.cells? base (a.add ((len+j) * P.cellsOf e)) (P.cellsOf e)).bind (DataW.trod enc P W' base sp hd n e) else some [])=some rest:=by
     by_cases hz:cap - len=0
     ·rw [hz] at h2 ⊢
      simp only [List.range_zero,List.mapM_nil] at h2 ⊢
      split
      ·exact h2
      ·exact h2
     ·have hr:=mapM_some_length h2
      have:sp a.block=true:=by
       refine hp (.cell a.block (a.off+0)) ?_
       rw [← h3]
       refine List.mem_append_left _ (List.mem_map.2 ⟨0,List.mem_range.2 ?_,rfl⟩)
       simp only [List.length_range] at hr
       exact Nat.mul_pos (by omega) hpos
      rw [if_pos this]
      exact mapM_ext h2 fun i _ y hy hm => sub e he _ _ y hy (hpe y (List.mem_append_right _ hm))
    rw [e2,← h3]
    rfl
  ·unfold DataW.trod at h ⊢
   rw [hu] at h ⊢
   simp only at h ⊢
   split
   ·rename_i hl
    rw [if_pos hl] at h
    obtain ⟨xs,h1,h2⟩:=Option.map_eq_some_iff.1 h
    have hpe:∀ y∈xs,∀ p∈y.2,sp p.block=true:=by
     intro y hy p hpy
     refine hp p ?_
     rw [← h2]
     exact List.mem_flatMap.2 ⟨y,hy,hpy⟩
    have e1:=mapM_ext (g:=fun f:Field => DataW.trod enc P W' base sp hd n f.type ((cs.drop f.offset).take (P.cellsOf f.type))) h1 fun f hf y hy hm => ih f.type _ y (hfs f hf) hy (hpe y hm)
    rw [e1,← h2]
    rfl
   ·rename_i hl
    rw [if_neg hl] at h
    cases h
theorem trodAll_ext {T:TypeId→Prop} (hT:TyOk P T) (hs:∀ b,b<W.heap.size→W'.heap[b]? = W.heap[b]?) {base:Nat} {hd:Bool} {sp:Nat→Bool}:∀ (ts:List TypeId) (vs:List Value) (ds:List (DataW H)) (ps:List MemPlace),(∀ t∈ts,T t) →
  DataW.TrodAll enc P W base (fun _ => true) hd ts vs ds ps→(∀ p∈ps,sp p.block=true)→DataW.TrodAll enc P W' base sp hd ts vs ds ps
 | [],vs,ds,ps,_,h,_ => by
  obtain ⟨rfl,rfl,rfl⟩:=trodAll_nil h
  rfl
 | t :: ts,vs,ds,ps,ht,h,hp => by
  obtain ⟨v,vs1,d,ds1,a,c,rfl,rfl,rfl,⟨n,h1⟩,h2⟩:=trodAll_cons h
  exact ⟨a,c,⟨n,zAD hT hs n t _ _ (ht t (by simp)) h1 fun p hpp => hp p (by simp [hpp])⟩,trodAll_ext hT hs ts vs1 ds1 c (fun t h => ht t (by simp [h])) h2 fun p hpp => hp p (by simp [hpp]),rfl⟩
theorem zxM (hs:∀ b,b<W.heap.size→W'.heap[b]? = W.heap[b]?) (ho:W'.os=W.os) (hp:W'.output=W.output) (may:MemPlace→Prop):W.keptBut W' may:=by
 refine ⟨ho,hp,fun i hi => ?_⟩
 rw [hs i hi]
 split
 ·rename_i c t fr c' t' fr' h1 h2
  rw [h1] at h2
  cases h2
  exact ⟨rfl,rfl,rfl,fun _ _ => rfl⟩
 ·rename_i es cl es' cl' h1 h2
  rw [h1] at h2
  cases h2
  exact .inr ⟨rfl,rfl⟩
 ·rfl
end
end Go.Proofs.YtablleokoifolaaGreatDoor
set_option linter.unusedVariables false
set_option linter.unusedSimpArgs false
namespace Go.Proofs.YtablleokoifolaaGreatDoor
open Go Go.ChangeShapes Go.WideShapes Go.RowKit
theorem own:ownKnob Tryz.prog.godebug=none:=by kernel_rfl
theorem etN:Tryz.prog.globalNamed "errors.errorType" = some 0:=by kernel_rfl
theorem rtN:(Tryz.prog.cutTypes.find? (·.1 == "internal/reflectlite.rtype")).map (·.2)=some 170:=by kernel_rfl
theorem oneRow:((List.range 251).filter fun t => Tryz.prog.rowNamed t [101,114,114,111,114])=[44]:=by kernel_rfl
theorem tsize:Tryz.prog.types.size=251:=by kernel_rfl
theorem gsize:Tryz.prog.globals.size=2:=by kernel_rfl
theorem row1:((begin Tryz.prog (fun _ _ => 0) default).world.heap[1]?).bind Obj.row? = some (#[.int .i64 0],3):=by kernel_rfl
theorem ct3:Tryz.prog.cellTypes Tryz.prog.depth 3=some [3]:=by kernel_rfl
theorem b3:Tryz.prog.buildable 3=true:=by kernel_rfl
abbrev laidE:List (String×DataW Unit):=[("errors.errorType",Rows.laid_errors_errorType)]
theorem zvg {W:World} (h:laidMetH Tryz.prog laidE W):W.cell? ⟨0,0,none⟩=some errV:=by
 have h':laidMet Tryz.prog [] W∧handlesMet Tryz.prog laidE W:=h
 obtain ⟨name,u,ty,e1,e2,e3,e4,e5⟩:=h'.2 _ (List.mem_singleton.2 rfl)
 have en:name=[101,114,114,111,114]:=(Option.some.inj e1).symm
 subst en
 obtain rfl:=Option.some.inj (rtN.symm.trans e2)
 have hm:ty∈(List.range 251).filter fun t => Tryz.prog.rowNamed t [101,114,114,111,114]:=List.mem_filter.2 ⟨List.mem_range.2 (by rw [← tsize]; exact e3),e4⟩
 rw [oneRow] at hm
 obtain rfl:=List.mem_singleton.1 hm
 have hh:typeHandle Tryz.prog 44=.pointer (some ⟨2,44,none⟩):=by kernel_rfl
 rw [hh] at e5
 simpa [errV] using World.var?_cell etN e5 0
theorem zxO {P:Program} {w:World} {g:Nat} {t:TypeId} {k:IntKind} {zero:Array Value} (h:w.ShapedOpen P) (hg:g<P.globals.size)
  (h0:((begin P (fun _ _ => 0) default).world.heap[g]?).bind Obj.row? = some (zero,t)) (hz:zero.size=1)
  (hb:P.buildable t=true) (hc:P.cellTypes P.depth t=some [t]) (hu:P.underlying t=some (.int k)):∃ n,w.cell? ⟨g,0,none⟩=some (.int k n):=by
 obtain ⟨cs,hh,hs,hr⟩:=h.1 g zero t hg h0
 obtain ⟨ts,hts,_,hall⟩:=hr hb
 rw [hc] at hts
 cases hts
 have h1:0<cs.size:=by omega
 obtain ⟨u,hu',hok⟩:=hall 0 cs[0] (by simp [h1])
 have:u=t:=by simpa using hu'.symm
 subst this
 have hcell:w.cell? ⟨g,0,none⟩=some cs[0]:=by simp [World.cell?,hh,h1]
 rw [hcell]
 unfold Cell.ok at hok
 rw [hu] at hok
 cases hv:cs[0] with
 | int k' n => rw [hv] at hok; obtain ⟨rfl,_⟩:=hok; exact ⟨n,rfl⟩
 | _ => rw [hv] at hok; simp at hok
set_option maxRecDepth 100000 in
theorem maxLen_of_shape {W:World} (h:W.ShapedOpen Tryz.prog):∃ n,W.cell? ⟨1,0,none⟩=some (.int .i64 n):=
 zxO h (gsize ▸ by decide) row1 rfl b3 ct3 Tryz.underlying3
theorem cellH_of {W:World} {b:Nat} {v:Value} (h:W.cell? ⟨b,0,none⟩=some v):cellH W.heap b=some v:=by
 unfold World.cell? at h
 unfold cellH
 split at h
 ·rename_i C T fr hb
  simp only at hb
  rw [hb]
  simpa using h
 ·cases h
theorem zBR {W:World} (hl:laidMetH Tryz.prog laidE W) (hs:W.ShapedOpen Tryz.prog):E.gok W.heap∧E.gb≤W.heap.size:=by
 obtain ⟨n,hn⟩:=maxLen_of_shape hs
 refine ⟨⟨cellH_of (zvg hl),n,cellH_of hn⟩,?_⟩
 have:=cellH_of hn
 unfold cellH at this
 split at this
 ·rename_i hb
  have:=(Array.getElem?_eq_some_iff.1 hb).1
  show 2≤W.heap.size
  omega
 ·cases this
noncomputable def laidWorld (os:Os):World:=
  { World.holding Tryz.prog os ⟨#[],#[],[]⟩ with heap:=(World.holding Tryz.prog os ⟨#[],#[],[]⟩).heap.modify 0 fun
      | .cells _ t frozen => .cells #[errV] t frozen
      | o => o }
theorem laidWorld_met (os:Os) (args:Array Value):laidMetH Tryz.prog laidE ((laidWorld os).forCall (fun _ _ => 0) ⟨#[],args,[]⟩).memory:=
 laidMetH_of_parts (laidMet_nil _ _) (by kernel_rfl)
theorem zAM {H:Array Obj} {F:Nat→Prop} {b:Bool} {v:Value} (h:RVF E H F (.bool b) v):v=.bool b:=by cases h; rfl
end Go.Proofs.YtablleokoifolaaGreatDoor
set_option linter.unusedVariables false
set_option linter.unusedSimpArgs false
namespace Go.Proofs.YtablleokoifolaaGreatDoor
open Go Go.ChangeShapes Go.RowKit Go.Deep
section
variable {H:Type} {enc:TypeId×Value→H} {E:Env} {W:World}
def Rd2 (enc:TypeId×Value→H) (E:Env) (W:World) {α:Type} (t:TypeId) (en:α→List FV) (wf:α→DataW H→Prop) (n:Nat):Prop:=
 ∀ (base:Nat) (sp:Nat→Bool) (hd:Bool) (cs:List Value) (x:DataW H×List MemPlace),DataW.trod enc E.P W base sp hd n t cs=some x →
  ∃ a,wf a x.1∧cs.length=(en a).length∧∀ j,j<cs.length→RVF E W.heap (old W) (toA ((en a).getD j .undef)) (cs.getD j Go.undef)
theorem Rd2.zero {α:Type} {t:TypeId} {en:α→List FV} {wf:α→DataW H→Prop}:Rd2 enc E W t en wf 0:=fun base sp hd cs x h => by cases h
theorem rd2_int {t:TypeId} {k:IntKind} (ht:E.P.underlying t=some (.int k)) (n:Nat):Rd2 enc E W t (eI k) (fun x d => (Lit.int k x).wf=true) n:=by
 intro base sp hd cs x h
 obtain ⟨b,h1,h2,h3⟩:=zBy (enc:=enc) (E:=E) (W:=W) ht n base sp hd cs x h
 exact ⟨b,h1,h2,h3⟩
def wfS {α:Type} [Inhabited α] (wf:α→DataW H→Prop) (l:List α) (d:DataW H):Prop:=
 l.length≤maxLen∧((d=.nil∧l=[])∨∃ ds rest,d=.slice ds rest∧ds.length=l.length∧∀ i,i<l.length→wf (l.getD i default) (ds.getD i .nil))
theorem rd2_slice {α:Type} [Inhabited α] {t e:TypeId} {en:α→List FV} {wf:α→DataW H→Prop} (ht:E.P.underlying t=some (.slice e)) (hs:0<E.P.cellsOf e)
  (hsz:∀ a,(en a).length=E.P.cellsOf e) (hk:∀ a,∀ v∈en a,cellOk (toA v)=true) (n':Nat) (h:Rd2 enc E W e en wf n') :
  Rd2 enc E W t (fun l:List α => [sV en l]) (wfS wf) (n'+1):=by
 intro base sp hd cs x hx
 rcases DataW.trod_slice ht hx with ⟨rfl,rfl⟩ | ⟨a,len,cap,elems,rest,n2,hn2,rfl,rfl,hb,hl,hm,hlen0,hel,_,_⟩
 ·refine ⟨[],⟨Nat.zero_le _,.inl ⟨rfl,rfl⟩⟩,rfl,fun j hj => ?_⟩
  obtain rfl:j=0:=by simp at hj; omega
  exact .slv0 none 0
 obtain rfl:n2=n':=by omega
 let D:Nat→DataW H:=fun i => (elems.map (·.1)).getD i .nil
 have hel2:∀ i,i<len→∃ cs' y,W.cells? base (a.add (i * E.P.cellsOf e)) (E.P.cellsOf e)=some cs'∧DataW.trod enc E.P W base sp hd n2 e cs'=some y∧y.1=D i:=by
  intro i hi
  have h1:=hel i hi
  rw [List.getElem?_eq_getElem (by omega)] at h1
  obtain ⟨cs',h2,h3⟩:=Option.bind_eq_some_iff.1 h1
  refine ⟨cs',_,h2,h3,?_⟩
  show _=(elems.map (·.1)).getD i .nil
  rw [List.getD_eq_getElem?_getD,List.getElem?_map,List.getElem?_eq_getElem (by omega)]; rfl
 have key:∀ i,i<len→∃ (b:α) (cs':List Value),wf b (D i)∧E.P.cellsOf e=cs'.length∧cs'.length=(en b).length∧(∀ j,j<cs'.length→W.cell? ((a.add (i * E.P.cellsOf e)).add j)=some (cs'.getD j Go.undef)) ∧
   ∀ j,j<cs'.length→RVF E W.heap (old W) (toA ((en b).getD j .undef)) (cs'.getD j Go.undef):=by
  intro i hi
  obtain ⟨cs',y,h1,h2,h2'⟩:=hel2 i (by omega)
  obtain ⟨_,hlen,hc⟩:=World.cells?_some h1
  obtain ⟨b,w1,w2,w3⟩:=h base sp hd cs' _ h2
  rw [h2'] at w1
  refine ⟨b,cs',w1,hlen.symm,w2,fun j hj => ?_,w3⟩
  have:=hc j (by omega)
  simpa [List.getD_eq_getElem?_getD,hj] using this
 obtain ⟨B,hB⟩:=choose_lt (α:=α) (p:=fun i b => ∃ cs':List Value,wf b (D i)∧E.P.cellsOf e=cs'.length∧cs'.length=(en b).length∧(∀ j,j<cs'.length→W.cell? ((a.add (i * E.P.cellsOf e)).add j)=some (cs'.getD j Go.undef)) ∧
   ∀ j,j<cs'.length→RVF E W.heap (old W) (toA ((en b).getD j .undef)) (cs'.getD j Go.undef)) key
 have hll:((List.range len).map B).length=len:=by simp
 refine ⟨(List.range len).map B,⟨by rw [hll]; omega,.inr ⟨_,_,rfl,by rw [hll,List.length_map,hlen0],fun i hi => ?_⟩⟩,rfl,fun j hj => ?_⟩
 ·rw [hll] at hi
  have e1:((List.range len).map B).getD i default=B i:=by simp [List.getD_eq_getElem?_getD,hi]
  rw [e1,show (elems.map (·.1)).getD i .nil=D i from rfl]
  exact (hB i hi).choose_spec.1
 ·obtain rfl:j=0:=by simp at hj; omega
  show RVF E W.heap (old W) (toA (sV en ((List.range len).map B))) (.slice (some a) len cap)
  rw [toA_sV,hll]
  by_cases h0:len=0
  ·subst h0
   exact .slv0 (some a) cap
  ·have hB0:=hB 0 (by omega)
   have first:∃ C T fr,W.heap[a.block]? = some (.cells C T fr)∧a.spot=none:=by
    obtain ⟨cs',_,hc,_,hcell,_⟩:=hB0
    have:=hcell 0 (by omega)
    rw [Nat.zero_mul] at this
    have ea:(a.add 0).add 0=a:=rfl
    rw [ea] at this
    unfold World.cell? at this
    split at this
    ·rename_i C T fr hh
     refine ⟨C,T,fr,hh,?_⟩
     split at this
     ·cases this
     ·rename_i hsn
      cases hsp:a.spot with
      | none => rfl
      | some q => rw [hsp] at hsn; exact absurd rfl hsn
    ·cases this
   obtain ⟨C,T,fr,hC,hspot⟩:=first
   obtain ⟨blk,off,spot⟩:=a
   simp only at hspot hC
   subst hspot
   have cellC:∀ i j,i<len→j<E.P.cellsOf e→∃ (b:α) (cs':List Value),B i=b∧cs'.length=(en b).length∧E.P.cellsOf e=cs'.length∧off+i * E.P.cellsOf e+j<C.size∧C.getD (off+i * E.P.cellsOf e+j) Go.undef=cs'.getD j Go.undef ∧
     RVF E W.heap (old W) (toA ((en b).getD j .undef)) (cs'.getD j Go.undef):=by
    intro i j hi hj
    obtain ⟨cs',_,hc,hc2,hcell,hr⟩:=hB i hi
    have h1:=hcell j (by omega)
    rw [add_add] at h1
    have h2:(Addr.add ⟨blk,off,none⟩ (i * E.P.cellsOf e+j))=⟨blk,off+(i * E.P.cellsOf e+j),none⟩:=by
     unfold Addr.add
     split
     ·rename_i hz; simp [hz]
     ·rfl
    rw [h2] at h1
    unfold World.cell? at h1
    simp only [hC,Option.isSome_none,Bool.false_eq_true,if_false] at h1
    have hlt:off+(i * E.P.cellsOf e+j)<C.size:=(Array.getElem?_eq_some_iff.1 h1).1
    refine ⟨B i,cs',rfl,hc2,hc,by omega,?_,hr j (by omega)⟩
    have:C.getD (off+i * E.P.cellsOf e+j) Go.undef=C.getD (off+(i * E.P.cellsOf e+j)) Go.undef:=by rw [Nat.add_assoc]
    rw [this,Array.getD_eq_getD_getElem?,h1]; rfl
   have hlen2:((List.range len).map fun i => (en (((List.range len).map B).getD i default)).map toA).length=len:=by simp
   have hget:∀ i,i<len→((List.range len).map fun i => (en (((List.range len).map B).getD i default)).map toA).getD i []=(en (B i)).map toA:=by
    intro i hi
    simp [List.getD_eq_getElem?_getD,hi]
   have hr:=RVF.slv (E:=E) (H:=W.heap) (F:=old W) ((List.range len).map fun i => (en (((List.range len).map B).getD i default)).map toA) blk off cap (E.P.cellsOf e) C T fr (Array.getElem?_eq_some_iff.1 hC).1 hC
    (by
     rw [hlen2]
     have:=cellC (len - 1) (E.P.cellsOf e - 1) (by omega) (by omega)
     obtain ⟨_,_,_,_,_,hlt,_⟩:=this
     have e1:len * E.P.cellsOf e=(len - 1) * E.P.cellsOf e+E.P.cellsOf e:=by
      have:len=(len - 1)+1:=by omega
      conv => lhs; rw [this,Nat.add_mul,Nat.one_mul]
     omega)
    (by rw [hlen2]; exact hl)
    (by
     rw [hlen2]
     intro i hi
     rw [hget i hi]; simp [hsz])
    (by
     rw [hlen2]
     intro i j hi hj
     rw [hget i hi]
     have hjl:j<(en (B i)).length:=by rw [hsz]; exact hj
     rw [List.getD_eq_getElem?_getD,List.getElem?_map,List.getElem?_eq_getElem hjl]
     exact hk _ _ (List.getElem_mem hjl))
    (by
     rw [hlen2]
     intro i j hi hj
     rw [hget i hi]
     obtain ⟨b,cs',rfl,_,_,_,hcv,hrv⟩:=cellC i j hi hj
     rw [hcv]
     have hjl:j<(en (B i)).length:=by rw [hsz]; exact hj
     rw [List.getD_eq_getElem?_getD,List.getElem?_eq_getElem hjl] at hrv
     rw [List.getD_eq_getElem?_getD,List.getElem?_map,List.getElem?_eq_getElem hjl]
     exact hrv)
   rw [hlen2] at hr
   exact hr
theorem zBc:∀ d:DataW H,1≤Rows.uptoBulk d:=fun d => by
 cases d with
 | lit l => cases l <;> simp [Rows.uptoBulk]
 | _ => simp [Rows.uptoBulk]
theorem bulkAll_get:∀ (ds:List (DataW H)),ds.length≤Rows.uptoBulkAll ds∧∀ i,i<ds.length→Rows.uptoBulk (ds.getD i .nil)≤Rows.uptoBulkAll ds
 | [] => ⟨Nat.le_refl _,fun i h => by simp at h⟩
 | d :: ds => by
  obtain ⟨h1,h2⟩:=bulkAll_get ds
  have hp:=zBc d
  refine ⟨by simp only [List.length_cons,Rows.uptoBulkAll]; omega,fun i hi => ?_⟩
  cases i with
  | zero => simp only [List.getD_cons_zero,Rows.uptoBulkAll]; omega
  | succ i => 
   have:=h2 i (by simpa using hi)
   simp only [List.getD_cons_succ,Rows.uptoBulkAll]; omega
theorem wfS_len {α:Type} [Inhabited α] {wf:α→DataW H→Prop} {l:List α} {d:DataW H} (h:wfS wf l d):l.length≤Rows.uptoBulk d:=by
 rcases h.2 with ⟨rfl,rfl⟩ | ⟨ds,rest,rfl,h1,_⟩
 ·simp
 ·have:=(bulkAll_get ds).1
  simp only [Rows.uptoBulk]; omega
theorem wfS_mem {α:Type} [Inhabited α] {wf:α→DataW H→Prop} {l:List α} {d:DataW H} (h:wfS wf l d) {a:α} (ha:a∈l):∃ d',wf a d'∧Rows.uptoBulk d'≤Rows.uptoBulk d:=by
 rcases h.2 with ⟨rfl,rfl⟩ | ⟨ds,rest,rfl,h1,h2⟩
 ·cases ha
 ·obtain ⟨i,hi,rfl⟩:=List.getElem_of_mem ha
  have:=h2 i hi
  rw [List.getD_eq_getElem?_getD,List.getElem?_eq_getElem hi] at this
  refine ⟨_,this,?_⟩
  have:=(bulkAll_get ds).2 i (by omega)
  simp only [Rows.uptoBulk]; omega
theorem wfS_wt {wf:Instr→DataW H→Prop} (hw:∀ x d,wf x d→wtI x≤6 * Rows.uptoBulk d) {l:List Instr} {d:DataW H} (h:wfS wf l d):wtL l≤6 * Rows.uptoBulk d:=by
 rcases h.2 with ⟨rfl,rfl⟩ | ⟨ds,rest,rfl,h1,h2⟩
 ·simp [wtL,Rows.uptoBulk]
 ·have key:∀ (l:List Instr) (ds:List (DataW H)),ds.length=l.length→(∀ i,i<l.length→wf (l.getD i default) (ds.getD i .nil))→wtL l≤1+6 * Rows.uptoBulkAll ds:=by
   intro l
   induction l with
   | nil => intro ds _ _; simp only [wtL]; omega
   | cons x l ih => 
    intro ds hl hh
    cases ds with
    | nil => simp at hl
    | cons d ds => 
     have h0:=hw _ _ (hh 0 (by simp))
     have h3:=ih ds (by simpa using hl) (fun i hi => by simpa using hh (i+1) (by simpa using hi))
     simp only [List.getD_cons_zero] at h0
     simp only [wtL,Rows.uptoBulkAll]; omega
  have:=key l ds h1 h2
  simp only [Rows.uptoBulk]; omega
theorem wfS_IWL {wf:Instr→DataW H→Prop} (hw:∀ x d,wf x d→IWI x) {l:List Instr} {d:DataW H} (h:wfS wf l d):IWL l:=by
 have key:∀ (l:List Instr),(∀ x∈l,IWI x)→IWL l:=by
  intro l
  induction l with
  | nil => intro _; simp only [IWL]
  | cons x l ih => intro hh; simp only [IWL]; exact ⟨hh x List.mem_cons_self,ih fun y hy => hh y (List.mem_cons_of_mem _ hy)⟩
 exact key l fun x hx => by
  obtain ⟨d',h1,_⟩:=wfS_mem h hx
  exact hw x d' h1
theorem toA_sVI (L:List Instr):toA (sVI L)=toA (sV eInstr L):=by
 simp only [sVI,sV,toA]
 congr 1
 refine List.map_congr_left fun i hi => ?_
 rw [flI_eq (List.mem_range.1 hi)]
 rfl
def wfI (x:Instr) (d:DataW H):Prop:=IWI x∧wtI x≤6 * Rows.uptoBulk d
theorem rd2_instr {tI tL tB tN tU tLb:TypeId} {fs:Array Field} (hI:E.P.underlying tI=some (.struct fs)) (hL:E.P.underlying tL=some (.slice tI))
  (hfs:fs.toList.map (fun f => (f.type,f.offset))=[(tB,0),(tN,1),(tU,2),(tU,3),(tB,4),(tL,5),(tL,6),(tLb,7)])
  (hB:E.P.underlying tB=some (.int .u8)) (hN:E.P.underlying tN=some (.int .i64)) (hU:E.P.underlying tU=some (.int .u32)) (hLb:E.P.underlying tLb=some (.slice tU))
  (cB:E.P.cellsOf tB=1) (cN:E.P.cellsOf tN=1) (cU:E.P.cellsOf tU=1) (cL:E.P.cellsOf tL=1) (cLb:E.P.cellsOf tLb=1) (cI:E.P.cellsOf tI=8) :
  ∀ n,Rd2 enc E W tI eInstr wfI n:=by
 intro n
 induction n using Nat.strongRecOn with
 | _ n ih => 
 intro base sp hd cs x hx
 obtain ⟨xs,m,rfl,rfl,hlen,hsz,hf⟩:=DataW.trod_struct hI hx
 have hfl:fs.size=8:=by have:=congrArg List.length hfs; simpa using this
 have fget:∀ (i:Nat) (t:TypeId) (o:Nat),[(tB,0),(tN,1),(tU,2),(tU,3),(tB,4),(tL,5),(tL,6),(tLb,7)][i]? = some (t,o)→DataW.trod enc E.P W base sp hd m t ((cs.drop o).take (E.P.cellsOf t))=xs[i]?:=by
  intro i t o h
  rw [← hfs,List.getElem?_map] at h
  cases hfi:fs.toList[i]? with
  | none => rw [hfi] at h; cases h
  | some f => 
   rw [hfi] at h
   obtain ⟨rfl,rfl⟩:=Prod.mk.inj (Option.some.inj h)
   exact hf i f (by rw [← Array.getElem?_toList]; exact hfi)
 obtain ⟨x0,x1,x2,x3,x4,x5,x6,x7,rfl⟩:∃ x0 x1 x2 x3 x4 x5 x6 x7,xs=[x0,x1,x2,x3,x4,x5,x6,x7]:=by
  have:xs.length=8:=by omega
  match xs,this with
  | [x0,x1,x2,x3,x4,x5,x6,x7],_ => exact ⟨x0,x1,x2,x3,x4,x5,x6,x7,rfl⟩
 obtain ⟨v0,v1,v2,v3,v4,v5,v6,v7,rfl⟩:∃ v0 v1 v2 v3 v4 v5 v6 v7,cs=[v0,v1,v2,v3,v4,v5,v6,v7]:=by
  have:cs.length=8:=by omega
  match cs,this with
  | [v0,v1,v2,v3,v4,v5,v6,v7],_ => exact ⟨v0,v1,v2,v3,v4,v5,v6,v7,rfl⟩
 have g0:=fget 0 tB 0 rfl
 have g1:=fget 1 tN 1 rfl
 have g2:=fget 2 tU 2 rfl
 have g3:=fget 3 tU 3 rfl
 have g4:=fget 4 tB 4 rfl
 have g5:=fget 5 tL 5 rfl
 have g6:=fget 6 tL 6 rfl
 have g7:=fget 7 tLb 7 rfl
 rw [cB] at g0 g4
 rw [cN] at g1
 rw [cU] at g2 g3
 rw [cL] at g5 g6
 rw [cLb] at g7
 have rL:Rd2 enc E W tL (fun l:List Instr => [sV eInstr l]) (wfS wfI) m:=by
  cases m with
  | zero => exact Rd2.zero
  | succ q => exact rd2_slice hL (by rw [cI]; decide) (fun a => by rw [cI]; rfl) (fun a v hv => by
    simp only [eInstr,List.mem_cons,List.not_mem_nil,or_false] at hv
    rcases hv with rfl | rfl | rfl | rfl | rfl | rfl | rfl | rfl <;> rfl) q (ih q (by omega))
 have rLb:Rd2 enc E W tLb (fun l:List Int => [sV (eI .u32) l]) (wfS fun x d => (Lit.int .u32 x).wf=true) m:=by
  cases m with
  | zero => exact Rd2.zero
  | succ q => 
   exact rd2_slice (en:=eI .u32) (wf:=fun x d => (Lit.int .u32 x).wf=true) hLb (by rw [cU]; decide) (fun a => by rw [cU]; rfl) (fun a v hv => by
    obtain rfl:v=.int .u32 a:=by simpa [eI] using hv
    rfl) q (rd2_int hU q)
 obtain ⟨a0,w0,_,r0⟩:=rd2_int (enc:=enc) (W:=W) hB m base sp hd _ _ g0
 obtain ⟨a1,w1,_,r1⟩:=rd2_int (enc:=enc) (W:=W) hN m base sp hd _ _ g1
 obtain ⟨a2,w2,_,r2⟩:=rd2_int (enc:=enc) (W:=W) hU m base sp hd _ _ g2
 obtain ⟨a3,w3,_,r3⟩:=rd2_int (enc:=enc) (W:=W) hU m base sp hd _ _ g3
 obtain ⟨a4,w4,_,r4⟩:=rd2_int (enc:=enc) (W:=W) hB m base sp hd _ _ g4
 obtain ⟨a5,w5,_,r5⟩:=rL base sp hd _ _ g5
 obtain ⟨a6,w6,_,r6⟩:=rL base sp hd _ _ g6
 obtain ⟨a7,w7,_,r7⟩:=rLb base sp hd _ _ g7
 have b5:=wfS_wt (fun x d h => h.2) w5
 have b6:=wfS_wt (fun x d h => h.2) w6
 have i5:=wfS_IWL (fun x d h => h.1) w5
 have i6:=wfS_IWL (fun x d h => h.1) w6
 refine ⟨Instr.mk a0 a1 a2 a3 a4 a5 a6 a7,⟨?_,?_⟩,rfl,fun j hj => ?_⟩
 ·have q0:0≤a0∧a0<256:=by
   have h:IntKind.u8.min≤a0∧a0≤IntKind.u8.max:=by simpa [Lit.wf] using w0
   have e1:IntKind.u8.min=0:=by decide
   have e2:IntKind.u8.max=255:=by decide
   omega
  have q2:0≤a2:=by
   have h:IntKind.u32.min≤a2∧a2≤IntKind.u32.max:=by simpa [Lit.wf] using w2
   have e1:IntKind.u32.min=0:=by decide
   omega
  simp only [IWI]
  exact ⟨q0,q2,i5,i6⟩
 ·simp only [wtI,List.map_cons,List.map_nil,Rows.uptoBulk,Rows.uptoBulkAll]
  omega
 ·have hj':j<8:=hj
  have r5':=r5 0 Nat.zero_lt_one
  have r6':=r6 0 Nat.zero_lt_one
  match j,hj' with
  | 0,_ => exact r0 0 Nat.zero_lt_one
  | 1,_ => exact r1 0 Nat.zero_lt_one
  | 2,_ => exact r2 0 Nat.zero_lt_one
  | 3,_ => exact r3 0 Nat.zero_lt_one
  | 4,_ => exact r4 0 Nat.zero_lt_one
  | 5,_ => 
   show RVF E W.heap (old W) (toA (sVI a5)) _
   rw [toA_sVI]; exact r5'
  | 6,_ => 
   show RVF E W.heap (old W) (toA (sVI a6)) _
   rw [toA_sVI]; exact r6'
  | 7,_ => exact r7 0 Nat.zero_lt_one
end
end Go.Proofs.YtablleokoifolaaGreatDoor
set_option linter.unusedVariables false
set_option linter.unusedSimpArgs false
namespace Go.Proofs.YtablleokoifolaaGreatDoor.validBodies
open Go Go.ChangeShapes Go.WideShapes Go.RowKit
theorem c5:Tryz.prog.cellsOf 5=1:=by kernel_rfl
theorem c2:Tryz.prog.cellsOf 2=1:=by kernel_rfl
theorem c59:Tryz.prog.cellsOf 59=1:=by kernel_rfl
theorem c55:Tryz.prog.cellsOf 55=1:=by kernel_rfl
theorem c61:Tryz.prog.cellsOf 61=1:=by kernel_rfl
theorem c69:Tryz.prog.cellsOf 69=8:=by kernel_rfl
def T (t:TypeId):Prop:=t=54∨t=5∨t=55∨t=69∨t=2∨t=59∨t=61
theorem tyOk:TyOk Tryz.prog T:=by
 intro t ht
 rcases ht with rfl | rfl | rfl | rfl | rfl | rfl | rfl
 ·exact .inr (.inr (.inr (.inl ⟨5,Tryz.underlying54,.inr (.inl rfl),by rw [c5]; decide⟩)))
 ·exact .inr (.inl ⟨_,Tryz.underlying5⟩)
 ·exact .inr (.inr (.inr (.inl ⟨69,Tryz.underlying55,.inr (.inr (.inr (.inl rfl))),by rw [c69]; decide⟩)))
 ·refine .inr (.inr (.inr (.inr ⟨_,Tryz.underlying69,fun f hf => ?_⟩)))
  simp only [List.mem_cons,List.not_mem_nil,or_false] at hf
  rcases hf with rfl | rfl | rfl | rfl | rfl | rfl | rfl | rfl <;> simp [T]
 ·exact .inr (.inl ⟨_,Tryz.underlying2⟩)
 ·exact .inr (.inl ⟨_,Tryz.underlying59⟩)
 ·exact .inr (.inr (.inr (.inl ⟨59,Tryz.underlying61,.inr (.inr (.inr (.inr (.inr (.inl rfl))))),by rw [c59]; decide⟩)))
theorem rdI {H:Type} (enc:TypeId×Value→H) (W:World):∀ n,Rd2 enc E W 55 (fun l:List Instr => [sV eInstr l]) (wfS wfI) n
 | 0 => Rd2.zero
 | n+1 => rd2_slice (E:=E) (en:=eInstr) (wf:=wfI) Tryz.underlying55 (by show 0<Tryz.prog.cellsOf 69; rw [c69]; decide) (fun a => by show 8=Tryz.prog.cellsOf 69; rw [c69]) (fun a v hv => by
   simp only [eInstr,List.mem_cons,List.not_mem_nil,or_false] at hv
   rcases hv with rfl | rfl | rfl | rfl | rfl | rfl | rfl | rfl <;> rfl) n
   (rd2_instr (E:=E) Tryz.underlying69 Tryz.underlying55 rfl Tryz.underlying5 Tryz.underlying2 Tryz.underlying59 Tryz.underlying61 c5 c2 c59 c55 c61 c69 n)
theorem rdB {H:Type} (enc:TypeId×Value→H) (W:World):∀ n,Rd2 enc E W 54 (fun l:List Int => [sV (eI .u8) l]) (wfS fun x d => (Lit.int .u8 x).wf=true) n
 | 0 => Rd2.zero
 | n+1 => rd2_slice (E:=E) (en:=eI .u8) (wf:=fun x d => (Lit.int .u8 x).wf=true) Tryz.underlying54 (by show 0<Tryz.prog.cellsOf 5; rw [c5]; decide) (fun a => by show 1=Tryz.prog.cellsOf 5; rw [c5]) (fun a v hv => by
   obtain rfl:v=.int .u8 a:=by simpa [eI] using hv
   rfl) n (rd2_int (E:=E) Tryz.underlying5 n)
set_option maxRecDepth 100000 in
theorem contract (H:Type) (enc:TypeId×Value→H) (W:World) (base:Nat) (args:Array Value) (ds gs:List (DataW H)) (before:List MemPlace)
  (hval:∀ (j:Nat) t v,Tryz.f4.params[j]? = some t→args[j]? = some v→Value.okWide Tryz.prog W .any base t v)
  (hW:DataW.Whole enc Tryz.prog Tryz.f4.params.toList Rows.validBodiesSpec.vars false W args.toList ds gs before) (hcond:Rows.uptoSmall H (ds++gs)=true) (hL:laidMetH Tryz.prog laidE W) (hS:W.ShapedOpen Tryz.prog) :
  Calls Tryz.prog 4 args W fun e W' => ∃ v,e=.returned v∧Rows.validBodiesSpec.post enc Tryz.prog Tryz.f4 false true false false W args v W':=by
 have hW':=hW
 obtain ⟨p,q,hA0,hV,rfl,hfz,hnd⟩:=hW
 have hA:DataW.TrodAll enc Tryz.prog W 0 (fun _ => true) true Tryz.f4.params.toList args.toList ds p:=hA0
 rw [Tryz.params4] at hA hval
 obtain ⟨v0,vs0,d0,ds0,p0,q0,hargs,rfl,rfl,⟨n0,h0⟩,r0⟩:=trodAll_cons hA
 obtain ⟨v1,vs1,d1,ds1,p1,q1,rfl,rfl,rfl,h1,r1⟩:=trodAll_cons r0
 obtain ⟨v2,vs2,d2,ds2,p2,q2,rfl,rfl,rfl,⟨n2,h2⟩,r2⟩:=trodAll_cons r1
 obtain ⟨rfl,rfl,rfl⟩:=trodAll_nil r2
 obtain rfl:args = #[v0,v1,v2]:=by cases args; simp_all
 obtain ⟨rfl,rfl⟩:=trodVars_none hV
 obtain ⟨x1,rfl,rfl,rfl,w1⟩:=open_int Tryz.underlying5 (hval 1 5 v1 rfl rfl) h1
 obtain ⟨a0,len0,cap0,rfl⟩:=okWide_slice Tryz.underlying54 (hval 0 54 v0 rfl rfl)
 obtain ⟨a2,len2,cap2,rfl⟩:=okWide_slice Tryz.underlying55 (hval 2 55 v2 rfl rfl)
 obtain ⟨ps,f0,_,l0⟩:=rdB enc W n0 0 _ _ _ _ h0
 obtain ⟨b,f2,_,l2⟩:=rdI enc W n2 0 _ _ _ _ h2
 have l0':=l0 0 Nat.zero_lt_one
 have l2':RVF E W.heap (old W) (toA (sVI b)) (.slice a2 len2 cap2):=by
  rw [toA_sVI]
  exact l2 0 Nat.zero_lt_one
 have g0:=wfS_len f0
 have g2:=wfS_wt (fun x d h => h.2) f2
 have gw:=wfS_IWL (fun x d h => h.1) f2
 have hb:Rows.uptoBulkAll [d0,.lit (.int .u8 x1),d2]≤1048576:=of_decide_eq_true hcond
 simp only [Rows.uptoBulkAll,Rows.uptoBulk] at hb
 have g0':ps.length≤Rows.uptoBulk d0:=g0
 have g2':wtL b≤6 * Rows.uptoBulk d2:=g2
 have ht:=zyN ps x1 b 1048700 10000000 gw (by omega) (by omega) (by omega) (by omega)
 obtain ⟨g1,g3⟩:=zBR hL hS
 have hc:=zli 10000000 ps x1 b true ht
 refine (hc.2 W (old W) #[.slice a0 len0 cap0,.int .u8 x1,.slice a2 len2 cap2] g3 g1 (fun b hb => hb) rfl (fun i hi => ?_)).mono ?_
 ·match i with
  | 0 => exact l0'
  | 1 => exact .int .u8 x1
  | 2 => exact l2'
 rintro e W' ⟨v,F',rfl,k⟩
 obtain rfl:=zAM k.rv
 refine ⟨_,rfl,_,_,_,[],p0++([]++(p2++[])),[],hW',trodAll_cons_mk (shut_bool Tryz.underlying4 _) trodAll_mk0,?_,rfl,zxM k.same k.wx.os k.wx.output _,fun h => by cases h⟩
 refine trodAll_ext tyOk k.same _ _ _ _ (fun t ht => ?_) hA0 fun p hp => ?_
 ·rw [Tryz.params4] at ht
  have:t=54∨t=5∨t=55:=by simpa using ht
  rcases this with h | h | h
  ·exact .inl h
  ·exact .inr (.inl h)
  ·exact .inr (.inr (.inl h))
 ·have:=hW'.lt p (by simpa using hp)
  simpa using this
theorem reads (os:Os) {H:Type} (enc:TypeId×Value→H):∃ places,DataW.whole enc Tryz.prog ((laidWorld os).forCall (fun _ _ => 0) ⟨#[],#[.slice none 0 0,.int .u8 0,.slice none 0 0],[]⟩).memory Tryz.f4.params.toList Rows.validBodiesSpec.vars false #[Value.slice none 0 0,Value.int .u8 0,Value.slice none 0 0].toList 8=some ([.nil,.lit (.int .u8 0),.nil],[],places):=
 ⟨[],by kernel_rfl⟩
set_option maxRecDepth 100000 in
theorem lifted (os:Os) (started:os.Started) (H:Type) (enc:TypeId×Value→H) (F:Stop.Interp) :
  ReturnsInHanded {} Tryz.checked os 4 .any ((Rows.OpenSpec.upto Rows.validBodiesSpec).preRow enc Tryz.prog Tryz.f4 Rows.validBodiesUptoRow.domain false Rows.validBodiesUptoRow.laid) (((Rows.OpenSpec.upto Rows.validBodiesSpec).at F).post enc Tryz.prog Tryz.f4 false true false false):=by
 obtain ⟨places,hx⟩:=reads os enc
 refine returnsInHanded_of_row (C:=Tryz.checked) (s:=Rows.OpenSpec.upto Rows.validBodiesSpec) own started (by kernel_rfl) Tryz.func4
  (witness_row_at (enc:=enc) (C:=Tryz.checked) false (laidWorld os) #[.slice none 0 0,.int .u8 0,.slice none 0 0] rfl (by kernel_rfl) (by kernel_rfl) (by kernel_rfl)
   (OpenSpec.preRow_of_cond 8 hx (by kernel_rfl) (fun k hk => by cases hk; kernel_rfl) (by kernel_rfl) (laidWorld_met os _))) ?_
 intro W base args ds gs before hval hW _ hcond _ hL hS _
 exact contract H enc W base args ds gs before hval hW (hcond _ rfl) hL hS
theorem said:Rows.ValidBodiesUptoSaid:=
 OpenClaim.holds_of_cond 4 Tryz.f4 rfl rfl rfl rfl rfl rfl rfl ⟨rfl,rfl,rfl,rfl,rfl⟩ rfl rfl rfl rfl rfl (by kernel_rfl) Tryz.func4 (by kernel_rfl)
  (of_decide_eq_true (by kernel_rfl)) (by unfold Func.isWrapper; first | (rw [if_pos (by decide +kernel)]; kernel_rfl) | (rw [if_neg (by decide +kernel)]; exact ⟨rfl,rfl⟩))
  (fun os started H enc _ F => by rw [OpenClaim.pre_eq_preRow]; exact lifted os started H enc F)
theorem plain (f:FuncId) (fn:Func) (hf:Tryz.pinned.checked.prog.funcNamed "mandrel/mandrellaw08.ValidBodies" = some f) (hfn:Tryz.pinned.checked.prog.funcs[f]? = some fn) :
  true=Tryz.pinned.checked.prog.looks []∧∀ (j:Nat) t,fn.params[j]? = some t→Tryz.pinned.checked.prog.wantsStandIn t=false:=by
 obtain rfl:f=4:=Option.some.inj ((show Tryz.prog.funcNamed "mandrel/mandrellaw08.ValidBodies" = some 4 by kernel_rfl).symm.trans hf) |>.symm
 obtain rfl:fn=Tryz.f4:=(Option.some.inj (Tryz.func4.symm.trans hfn)).symm
 refine ⟨by kernel_rfl,fun j t ht => ?_⟩
 rw [Tryz.params4] at ht
 have:t=54∨t=5∨t=55:=by simpa using Array.mem_of_getElem? ht
 rcases this with rfl | rfl | rfl
 ·exact (show Tryz.prog.wantsStandIn 54=false by kernel_rfl)
 ·exact (show Tryz.prog.wantsStandIn 5=false by kernel_rfl)
 ·exact (show Tryz.prog.wantsStandIn 55=false by kernel_rfl)
theorem card:Rows.ValidBodiesUptoCardSaid:=
 Claim7.holds_tied_plain_at .later [] [.handle] true _ true said (fun _ h => by cases h) (by kernel_rfl) (fun _ h => by cases h) validBodiesUpto_row_tie rfl ⟨rfl,rfl⟩ (by kernel_rfl) rfl plain (by kernel_rfl)
end Go.Proofs.YtablleokoifolaaGreatDoor.validBodies
