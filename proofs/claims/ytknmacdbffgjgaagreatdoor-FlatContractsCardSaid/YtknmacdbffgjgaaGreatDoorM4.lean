/-
  Rows of elements: rows that are only read (Row),rows that are owned,wherever they begin (VR); contracts over many resources as one. Generic: nothing of the program is named here. No condition.
-/
import Derived.Test.YtknmacdbffgjgaaGreatDoorM3
import Derived.ProofKit
import Derived.OpenShut
import Derived.Test.YtknmacdbffgjgaaGreatDoorRows
import Derived.Test.YtknmacdbffgjgaaGreatDoorM1
import Derived.ArgAppend
set_option linter.unusedVariables false
set_option linter.unusedSimpArgs false
set_option maxRecDepth 100000
set_option maxHeartbeats 16000000
namespace Go.Ck
open Go
section
variable {P:Program} {e:Env} {h:SH} {ty:TypeId}
end
section
variable {c:Cx} {ops:Array Oper} {K:Act->World->Prop} {rest:List Oper} {e:Env} {h h' hr:SH}
theorem sV {d:Nat} {op:Op} {ty:TypeId} {pos:String} {after:Array Edge} {v:Value} (hv:Vop c.P e h op ty v) (hn:St c ops K rest ((d,v)::e) h) (hd:d<c.n:=by exact ltn rfl) :
  St c ops K (⟨some d,op,ty,pos,after,none⟩::rest) e h:=H8 hv hd hn
theorem sG {d g gd:Nat} {op:Op} {ty:TypeId} {pos:String} {after:Array Edge} {v:Value} {want:Bool} (hg:((ops[g]?).bind (·.dst))=some gd) (hgv:e.get? gd=some (.bool want))
  (hv:Vop c.P e h op ty v) (hn:St c ops K rest ((d,v)::e) h) (hd:d<c.n:=by exact ltn rfl):St c ops K (⟨some d,op,ty,pos,after,some (g,want)⟩::rest) e h:=st_valg hg hgv hv hd hn
theorem aC {d g gd:Nat} {op:Op} {ty:TypeId} {pos:String} {after:Array Edge} {want b:Bool} (hg:((ops[g]?).bind (·.dst))=some gd) (hgv:e.get? gd=some (.bool b)) (hb:b = !want)
  (hn:St c ops K rest ((d,undef)::e) h) (hd:d<c.n:=by exact ltn rfl):St c ops K (⟨some d,op,ty,pos,after,some (g,want)⟩::rest) e h:=st_skip hg hgv hb hd hn
theorem aH {d:Nat} {f:Operand} {az:Array Operand} {ts:Array TypeId} {ty:TypeId} {pos:String} {after:Array Edge} {k:FuncId} {fi cp:Array Value} {vs:List Value} {args:Array Value} {hf:SH} {R:Value->SH->Prop}
  (hv:e.ev? f=some (.func (.func k) fi cp)) (has:az.toList.mapM e.ev? = some vs) (hE:Enters c.P k) (ha:fi++vs.toArray++cp=args) (ct:Ct c.P k args hf R)
  (hn:∀ v h',R v h'->St c ops K rest ((d,v)::e) (h'++hr)) (pk:Pk h hf hr:=by repeat (first | exact Pk.nil | (apply Pk.cons; (repeat (first | exact Sel.here | apply Sel.there))))) (hd:d<c.n:=by exact ltn rfl) :
  St c ops K (⟨some d,.call { callee:=.value f,args:=az,argTypes:=ts },ty,pos,after,none⟩::rest) e h:=st_call hv has hE ha ct pk hd hn
theorem aY {d:Nat} {f:Operand} {az:Array Operand} {ts:Array TypeId} {ty:TypeId} {pos:String} {after:Array Edge} {k:FuncId} {fi cp:Array Value} {vs:List Value} {args:Array Value} {hf:SH} {v:Value}
  (hv:e.ev? f=some (.func (.func k) fi cp)) (has:az.toList.mapM e.ev? = some vs) (hE:Enters c.P k) (ha:fi++vs.toArray++cp=args) (ct:Reads c.P k args hf v)
  (hn:St c ops K rest ((d,v)::e) h) (pk:Pk h hf hr:=by repeat (first | exact Pk.nil | (apply Pk.cons; (repeat (first | exact Sel.here | apply Sel.there))))) (hd:d<c.n:=by exact ltn rfl) :
  St c ops K (⟨some d,.call { callee:=.value f,args:=az,argTypes:=ts },ty,pos,after,none⟩::rest) e h:=MN hv has hE ha ct pk hd hn
theorem bU {d g gd:Nat} {f:Operand} {az:Array Operand} {ts:Array TypeId} {ty:TypeId} {pos:String} {after:Array Edge} {k:FuncId} {fi cp:Array Value} {vs:List Value} {args:Array Value} {hf:SH} {v:Value} {want:Bool}
  (hg:((ops[g]?).bind (·.dst))=some gd) (hgv:e.get? gd=some (.bool want))
  (hv:e.ev? f=some (.func (.func k) fi cp)) (has:az.toList.mapM e.ev? = some vs) (hE:Enters c.P k) (ha:fi++vs.toArray++cp=args) (ct:Reads c.P k args hf v)
  (hn:St c ops K rest ((d,v)::e) h) (pk:Pk h hf hr:=by repeat (first | exact Pk.nil | (apply Pk.cons; (repeat (first | exact Sel.here | apply Sel.there))))) (hd:d<c.n:=by exact ltn rfl) :
  St c ops K (⟨some d,.call { callee:=.value f,args:=az,argTypes:=ts },ty,pos,after,some (g,want)⟩::rest) e h:=KM hg hgv hv has hE ha ct pk hd hn
theorem bf {T E:TypeId} {x y:Operand} {ty:TypeId} {pos:String} {after:Array Edge} {b off:Nat} {l l':List Value} {v:Value} {k:SH}
  (hx:e.ev? x=some (.pointer<|some ⟨b,off,none⟩)) (hy:e.ev? y=some v) (hT:Sz c.P T 1) (hn:St c ops K rest e (pt b (cl l' E)::k))
  (hv:v.oneCell'=true:=by first | rfl | assumption) (hs:Sel h (pt b<|cl l E) k:=by repeat (first | exact Sel.here | apply Sel.there)) (ho:off<l.length:=by first | exact ltn rfl | assumption | (simp only [List.length_append,EZ,DI]; omega) | omega) (hl:SetAt l off v l':=by first | (repeat (first | exact SetAt.zero | apply SetAt.succ)); done | exact SetAt.set) :
  St c ops K (⟨none,.store T x y,ty,pos,after,none⟩::rest) e h:=MO hx hy hT hv hs ho hl hn
theorem ai {T E:TypeId} {x y:Operand} {ty:TypeId} {pos:String} {after:Array Edge} {b n:Nat} {l vs:List Value} {k:SH}
  (hx:e.ev? x=some (.pointer<|some ⟨b,0,none⟩)) (hy:e.ev? y=some (.agg vs.toArray)) (hT:Sz c.P T n) (hn:vs.length=n) (h1:vs.all Value.oneCell'=true)
  (hnx:St c ops K rest e (pt b (cl vs E)::k)) (hs:Sel h (pt b<|cl l E) k:=by repeat (first | exact Sel.here | apply Sel.there)) (hl:l.length=vs.length:=by exact rfl) :
  St c ops K (⟨none,.store T x y,ty,pos,after,none⟩::rest) e h:=KN hx hy hT hn (ones h1) hs hl hnx
theorem au {d:Nat} {T ty:TypeId} {pos:String} {after:Array Edge} {zs:List Value} (hA:Al c.P T zs)
  (hn:∀ b,St c ops K rest ((d,.pointer (some ⟨b,0,none⟩))::e) (pt b (cl zs T)::h)) (hd:d<c.n:=by exact ltn rfl):St c ops K (⟨some d,.alloc T,ty,pos,after,none⟩::rest) e h:=MP hA hd hn
theorem aP {d:Nat} {T ty:TypeId} {x:Operand} {pos:String} {after:Array Edge} {v:Value} {zs:List Value} (hx:e.ev? x=some v) (hz:v.cells=zs.toArray)
  (hn:∀ b,St c ops K rest ((d,.pointer (some ⟨b,0,none⟩))::e) (pt b (cl zs T)::h)) (hd:d<c.n:=by exact ltn rfl):St c ops K (⟨some d,.box T x,ty,pos,after,none⟩::rest) e h:=st_box hx hz hd hn

/-! In a region that draws its order. -/
variable {pre:Nat->Bool} {hC:SH} {t:Ord}
theorem bu {i d:Nat} {op:Op} {ty:TypeId} {pos:String} {after:Array Edge} {v:Value} (hi:ops[i]? = some ⟨some d,op,ty,pos,after,none⟩) (hv:Vop c.P e hC op ty v)
  (hn:DrL c ops pre hC K t ((d,v)::e) h) (hs:Sub hC h:=by repeat (first | exact Sub.refl _ | exact Sub.nil _ | refine Sub.sel slq ?_ | apply Sub.cons)) (hd:d<c.n:=by exact ltn rfl):DrL c ops pre hC K (.cons (i,true) t) e h:=dr_val hi hs hv hd hn
theorem lw {i d g gd:Nat} {op:Op} {ty:TypeId} {pos:String} {after:Array Edge} {v:Value} {want:Bool} (hi:ops[i]? = some ⟨some d,op,ty,pos,after,some (g,want)⟩) (hg:((ops[g]?).bind (·.dst))=some gd) (hgv:e.get? gd=some (.bool want))
  (hv:Vop c.P e hC op ty v) (hn:DrL c ops pre hC K t ((d,v)::e) h) (hs:Sub hC h:=by repeat (first | exact Sub.refl _ | exact Sub.nil _ | refine Sub.sel slq ?_ | apply Sub.cons)) (hd:d<c.n:=by exact ltn rfl):DrL c ops pre hC K (.cons (i,true) t) e h:=dr_valg hi hg hgv hs hv hd hn
theorem lD {i d g gd:Nat} {op:Op} {ty:TypeId} {pos:String} {after:Array Edge} {want b:Bool} (hi:ops[i]? = some ⟨some d,op,ty,pos,after,some (g,want)⟩) (hg:((ops[g]?).bind (·.dst))=some gd) (hgv:e.get? gd=some (.bool b)) (hb:b = !want)
  (hn:DrL c ops pre hC K t ((d,undef)::e) h) (hs:Sub hC h:=by repeat (first | exact Sub.refl _ | exact Sub.nil _ | refine Sub.sel slq ?_ | apply Sub.cons)) (hd:d<c.n:=by exact ltn rfl):DrL c ops pre hC K (.cons (i,true) t) e h:=dr_skip hi hg hgv hb hs hd hn
theorem dV {i d:Nat} {op:Op} {ty:TypeId} {pos:String} {after:Array Edge} {v:Value} (hi:ops[i]? = some ⟨some d,op,ty,pos,after,none⟩) (hv:Vop c.P e [] op ty v)
  (hn:DrL c ops pre hC K t ((d,v)::e) h) (hd:d<c.n:=by exact ltn rfl):DrL c ops pre hC K (.pure i t) e h:=drp_val hi hv hd hn
theorem fG {i d g gd:Nat} {op:Op} {ty:TypeId} {pos:String} {after:Array Edge} {v:Value} {want:Bool} (hi:ops[i]? = some ⟨some d,op,ty,pos,after,some (g,want)⟩) (hg:((ops[g]?).bind (·.dst))=some gd) (hgv:e.get? gd=some (.bool want))
  (hv:Vop c.P e [] op ty v) (hn:DrL c ops pre hC K t ((d,v)::e) h) (hd:d<c.n:=by exact ltn rfl):DrL c ops pre hC K (.pure i t) e h:=MU hi hg hgv hv hd hn
theorem jB {i d g gd:Nat} {op:Op} {ty:TypeId} {pos:String} {after:Array Edge} {want b:Bool} (hi:ops[i]? = some ⟨some d,op,ty,pos,after,some (g,want)⟩) (hg:((ops[g]?).bind (·.dst))=some gd) (hgv:e.get? gd=some (.bool b)) (hb:b = !want)
  (hn:DrL c ops pre hC K t ((d,undef)::e) h) (hd:d<c.n:=by exact ltn rfl):DrL c ops pre hC K (.pure i t) e h:=MV hi hg hgv hb hd hn
theorem jG {i d:Nat} {f:Operand} {az:Array Operand} {ts:Array TypeId} {ty:TypeId} {pos:String} {after:Array Edge} {k:FuncId} {fi cp:Array Value} {vs:List Value} {args:Array Value} {hf hr:SH} {v:Value}
  (hi:ops[i]? = some ⟨some d,.call { callee:=.value f,args:=az,argTypes:=ts },ty,pos,after,none⟩)
  (hv:e.ev? f=some (.func (.func k) fi cp)) (has:az.toList.mapM e.ev? = some vs) (hE:Enters c.P k) (ha:fi++vs.toArray++cp=args) (ct:Reads c.P k args hf v)
  (hn:DrL c ops pre hC K t ((d,v)::e) h) (hs:Sub hC h:=by repeat (first | exact Sub.refl _ | exact Sub.nil _ | refine Sub.sel slq ?_ | apply Sub.cons)) (pk:Pk hC hf hr:=by repeat (first | exact Pk.nil | (apply Pk.cons; (repeat (first | exact Sel.here | apply Sel.there))))) (hd:d<c.n:=by exact ltn rfl):DrL c ops pre hC K (.cons (i,true) t) e h:=dr_call hi hs hv has hE ha ct pk hd hn
theorem zf {i d g gd:Nat} {f:Operand} {az:Array Operand} {ts:Array TypeId} {ty:TypeId} {pos:String} {after:Array Edge} {k:FuncId} {fi cp:Array Value} {vs:List Value} {args:Array Value} {hf hr:SH} {v:Value} {want:Bool}
  (hi:ops[i]? = some ⟨some d,.call { callee:=.value f,args:=az,argTypes:=ts },ty,pos,after,some (g,want)⟩) (hg:((ops[g]?).bind (·.dst))=some gd) (hgv:e.get? gd=some (.bool want))
  (hv:e.ev? f=some (.func (.func k) fi cp)) (has:az.toList.mapM e.ev? = some vs) (hE:Enters c.P k) (ha:fi++vs.toArray++cp=args) (ct:Reads c.P k args hf v)
  (hn:DrL c ops pre hC K t ((d,v)::e) h) (hs:Sub hC h:=by repeat (first | exact Sub.refl _ | exact Sub.nil _ | refine Sub.sel slq ?_ | apply Sub.cons)) (pk:Pk hC hf hr:=by repeat (first | exact Pk.nil | (apply Pk.cons; (repeat (first | exact Sel.here | apply Sel.there))))) (hd:d<c.n:=by exact ltn rfl):DrL c ops pre hC K (.cons (i,true) t) e h:=MW hi hg hgv hs hv has hE ha ct pk hd hn
theorem aW {i:Nat} {h0:SH} (hn:DrL c ops pre hC K t e h) (hs:pre i=true->Sub hC h0->Sub hC h:=by first | (intro hq; cases hq; done) | (intro _ hs; exact hs) | (intro _ hs; refine Sub.trans hs ?_; (repeat (first | exact Sub.refl _ | exact Sub.nil _ | refine Sub.sel slq ?_ | apply Sub.cons)); done) | (intro _ _; (repeat (first | exact Sub.refl _ | exact Sub.nil _ | refine Sub.sel slq ?_ | apply Sub.cons)); done)):St c ops (EffK c ops pre hC K i t h0) [] e h:=MX hs hn
/-! Remembered slots. -/
def kept (e:Env):List Nat->Option Env
 | []=>some []
 | k::ks=>match e.get? k with
  | some v=>(kept e ks).map ((k,v) :: ·)
  | none=>none
theorem E8 {e : Env} : ∀ {ks : List Nat} {e' : Env}, kept e ks = some e' -> Env.sub e' e
 | [],e',h=>by simp only [kept,Option.some.injEq] at h; subst h; trivial
 | k::ks,e',h=>by
  simp only [kept] at h
  cases hg:e.get? k with
  | none=>rw [hg] at h; cases h
  | some v =>
   rw [hg] at h
   simp only [Option.map_eq_some_iff] at h
   obtain ⟨t,h1,rfl⟩:=h
   exact ⟨hg,E8 h1⟩
theorem nK (ks:List Nat) {e':Env} (hk:kept e ks=some e') (hn:Nx c K e' h):Nx c K e h:=hn.weaken (E8 hk)
variable {Q:Exit->Act->World->Prop}
end
section
variable {P:Program} {n:Nat} {w0:World} {fn:Func} {e:Env} {h hr h':SH} {R:Value->SH->Prop} {r:Option Nat} {vs:List Value}
theorem aj (hv:e.res? fn.results.toList=some vs) (hR:R (kC vs) h') (hp:Sub (h'++hr) h:=by first | (rw [List.nil_append]; (repeat (first | exact Sub.refl _ | apply Sub.cons)); done) | (repeat (first | exact Sub.refl _ | exact Sub.nil _ | refine Sub.sel slq ?_ | apply Sub.cons))):Xt ⟨P,r,n,[],w0⟩ .ret (bodyPost P fn (Post w0 hr R)) e h:=xt_ret hv hR hp
theorem z8 (hv:e.res? fn.results.toList=some vs) (hR:R (kC vs) h') (hp:Sub (h'++hr) h:=by first | (rw [List.nil_append]; (repeat (first | exact Sub.refl _ | apply Sub.cons)); done) | (repeat (first | exact Sub.refl _ | exact Sub.nil _ | refine Sub.sel slq ?_ | apply Sub.cons))):Xt ⟨P,r,n,[],w0⟩ .normal (bodyPost P fn (Post w0 hr R)) e h:=xt_end hv hR hp
end
theorem Z {α : Sort _} {a : α}:a=a:=Eq.refl a
theorem lC {α : Type _} {a : α} {az bs:List α}:(a::az)++bs=a::(az++bs):=rfl
theorem lN {α : Type _} {az:List α}:([]:List α)++az=az:=rfl
theorem uG {e e':Env} {d:Nat} {u v:Value} (hv:u=v:=by first | rfl | (rw [hg]; rfl) | simp_all) (h:zV e e':=by repeat (first | exact uR | refine uS rfl ?_)):zV ((d,u)::e) ((d,v)::e'):=uH hv h
section
variable {c:Cx} {ops:Array Oper} {K:Act->World->Prop} {rest:List Oper} {e:Env} {h:SH} {Q:Exit->Act->World->Prop}
theorem sM {d:Nat} {x:Operand} {ty:TypeId} {pos:String} {after:Array Edge} {v:Value} (hv:e.ev? x=some v) (hn:St c ops K rest ((d,v)::e) h) (hd:d<c.n:=by exact ltn rfl):St c ops K (⟨some d,.move x,ty,pos,after,none⟩::rest) e h:=sV (vM hv) hn hd
theorem sA {d:Nat} {x:Operand} {ty:TypeId} {pos:String} {after:Array Edge} {v:Value} (hv:e.ev? x=some v) (hn:St c ops K rest ((d,v)::e) h) (hd:d<c.n:=by exact ltn rfl):St c ops K (⟨some d,.assign x,ty,pos,after,none⟩::rest) e h:=sV (vA hv) hn hd
theorem sK (ks:List Nat) {e':Env} {y:Code} (hk:kept e ks=some e') (hy:Cd c y Q e' h):St c ops (Exit.then (Behind c y Q) Q .normal) [] e h:=sN (nK ks hk<|nT hy)
theorem cQ {id:Nat} {l:List Oper} {y:Code} (hs:St c l.toArray (Exit.then (Behind c y Q) Q .normal) l e h):Cd c (.seq (.region id l.toArray false) y) Q e h:=cS (cR hs)
end
def fbody (f:Func):Code:=f.body.getD .skip
def cdl:Code->Code
 | .seq a _=>a
 | .block _ x=>x
 | .loop x=>x
 | .scope x=>x
 | .cond _ a _=>a
 | c=>c
def cdr:Code->Code
 | .seq _ b=>b
 | .cond _ _ b=>b
 | c=>c
section
variable {c:Cx} {Q:Exit->Act->World->Prop} {e e':Env} {h h':SH} {ex:Exit} {x:Code}
end

/-! ## A guard that has no value: skipped -/
section
variable {c:Cx} {ops:Array Oper} {K:Act->World->Prop} {rest:List Oper} {e:Env} {h hC:SH} {pre:Nat->Bool} {t:Ord}
theorem DU {g gd:Nat} (hg:((ops[g]?).bind (·.dst))=some gd) (hgv:e.get? gd=some undef) {n:Nat} {ds:List Deferred} {a:Act} (hk:Kn n ds a e):yielded ops a.tmps g=none:=by
 unfold yielded
 cases ho:ops[g]? with
 | none=>simp [ho] at hg
 | some o=>simp only [ho,Option.bind_some] at hg; simp [hg,hk.get gd _ hgv,undef]
theorem bS {d g gd:Nat} {op:Op} {ty:TypeId} {pos:String} {after:Array Edge} {want:Bool} (hg:((ops[g]?).bind (·.dst))=some gd) (hgv:e.get? gd=some undef)
  (hn:St c ops K rest ((d,undef)::e) h) (hd:d<c.n:=by exact ltn rfl):St c ops K (⟨some d,op,ty,pos,after,some (g,want)⟩::rest) e h:=λa w hk hh hs=>by
 unfold LsW
 rw [if_neg (by simp [Region.wanted,DU hg hgv hk])]
 exact hn _ w (hk.put undef hd) hh hs
end
section
variable {c:Cx} {Q:Exit->Act->World->Prop} {e:Env} {h:SH}
theorem aX {σ : Type} {x:Code} (E : σ -> Env) (H : σ -> SH) (Φ : σ -> Prop) (μ : σ -> Nat) (s0 : σ) (h0 : Φ s0) (hr:∀ s,Φ s->Cd c x (Exit.then (JI c E H Φ μ s) Q) (E s) (H s))
  (hs:Env.sub (E s0) e:=by repeat (first | exact trivial | refine ⟨rfl,?_⟩)) (hp:Sub (H s0) h:=by (repeat (refine Sub.sel slq ?_)); (repeat apply Sub.cons); first | exact Sub.refl _ | exact Sub.nil _):Cd c (.loop x) Q e h:=cd_loop E H Φ μ s0 h0 hs hp hr
theorem aJ {σ : Type} {E : σ -> Env} {H : σ -> SH} {Φ : σ -> Prop} {μ : σ -> Nat} {s : σ} (s' : σ) (h1 : Φ s') (h2 : μ s' < μ s) (hs:Env.sub (E s') e:=by repeat (first | exact trivial | refine ⟨rfl,?_⟩)) (hp:Sub (H s') h:=by (repeat (refine Sub.sel slq ?_)); (repeat apply Sub.cons); first | exact Sub.refl _ | exact Sub.nil _) :
  Xt c .normal (Exit.then (JI c E H Φ μ s) Q) e h:=MQ s' h1 h2 hs hp
end
end Go.Ck
namespace Go.Ck
open Go Go.RowKit Go.ChangeShapes Go.WideShapes
inductive Ty where
 | int (k:IntKind)
 | bool
 | str
 | slice (t:Ty)
 | struct (fs:List Ty)
 | any (n:Nat) (L:List TypeId)
mutual
def Ty.D:Ty->Type
 | .int _=>Int
 | .bool=>Bool
 | .str=>ByteArray
 | .slice t=>List (Ty.D t)
 | .struct fs=>Ty.Ds fs
 | .any _ _=>Unit
def Ty.Ds:List Ty->Type
 | []=>Unit
 | t::ts=>Ty.D t×Ty.Ds ts
end
mutual
def Ty.sz:Ty->Nat
 | .int _=>1
 | .bool=>1
 | .str=>1
 | .slice _=>1
 | .struct fs=>Ty.szs fs
 | .any n _=>n
def Ty.szs:List Ty->Nat
 | []=>0
 | t::ts=>Ty.sz t+Ty.szs ts
end
mutual
def Rep (r : Res) : (t : Ty) -> List Value -> t.D -> Prop
 | .int k,cs,n=>cs=[.int k n]/\(Lit.int k n).wf=true
 | .bool,cs,b=>cs=[.bool b]
 | .str,cs,s=>cs=[.string s]/\s.size≤maxLen
 | .slice t,cs,l=>∃ a cap,cs=[.slice a (List.length l) cap]/\List.length l≤cap/\cap≤maxLen/\(a=none->cap=0) /\
   (l=([]:List t.D)∨∃ b o,a=some ⟨b,o,none⟩/\∀ (i:Nat) (x:t.D),@getElem? (List t.D) Nat t.D _ _ l i=some x->∃ us:List Value,us.length=t.sz/\Rds r b (o+i * t.sz) us/\Rep r t us x)
 | .struct fs,cs,x=>Reps r fs cs x
 | .any n _,cs,_=>cs.length=n
def Reps (r:Res):(fs:List Ty)->List Value->Ty.Ds fs->Prop
 | [],cs,_=>cs=[]
 | t::ts,cs,(x,xs)=>∃ u us,cs=u++us/\u.length=t.sz/\Rep r t u x/\Reps r ts us xs
end
def JL (P:Program) (L:List TypeId):Bool:=L.all λt=>match P.underlying t with
 | some (.int _)=>true
 | some .bool=>true
 | some .string=>true
 | some (.slice e)=>L.contains e && Nat.ble 1 (P.cellsOf e)
 | some (.struct fs)=>fs.toList.all λf=>L.contains f.type
 | _=>false
def structB (P:Program) (t:TypeId):Bool:=match P.underlying t with
 | some (.struct _)=>true
 | _=>false
mutual
def BB (P:Program):Ty->TypeId->Bool
 | .int k,t=>match P.underlying t with | some (.int k')=>decide (k'=k) | _=>false
 | .bool,t=>match P.underlying t with | some .bool=>true | _=>false
 | .str,t=>match P.underlying t with | some .string=>true | _=>false
 | .slice u,t=>match P.underlying t with | some (.slice e)=>Nat.beq (P.cellsOf e) u.sz && Nat.ble 1 u.sz && BB P u e | _=>false
 | .struct fs,t=>match P.underlying t with | some (.struct gs)=>Nat.beq (P.cellsOf t) (Ty.szs fs) && Cj P fs gs.toList 0 | _=>false
 | .any n L,t=>JL P L && L.contains t && Nat.beq (P.cellsOf t) n && structB P t
def Cj (P:Program):List Ty->List Field->Nat->Bool
 | [],[],_=>true
 | t::ts,f::fs,off=>Nat.beq f.offset off && Nat.beq (P.cellsOf f.type) t.sz && BB P t f.type && Cj P ts fs (off+t.sz)
 | _,_,_=>false
end

section
variable {H:Type} {enc:TypeId×Value->H} {P:Program} {W:World} {held:Bool} {sp:Nat->Bool}
theorem wW {base:Nat} {a:Addr} {n:Nat} {cs:List Value} (h:W.cells? base a n=some cs):cs.length=n/\∀ i,(hi:i<cs.length)->W.cell? (a.add i)=some cs[i]:=by
 obtain ⟨_,h1,h2⟩:=World.cells?_some h
 exact ⟨h1,λi hi=>by rw [h2 i (by omega),Zy hi]⟩
theorem cell_spot {a:Addr} {v:Value} (h:W.cell? a=some v):a.spot=none/\a.block<W.heap.size:=by
 unfold World.cell? at h
 cases hq:W.heap[a.block]? with
 | none=>rw [hq] at h; cases h
 | some o =>
  rw [hq] at h
  have hb:=(Array.getElem?_eq_some_iff.1 hq).1
  cases o with
  | cells c t f =>
   by_cases hs:a.spot.isSome=true
   ·simp [hs] at h
   ·exact ⟨by simpa using hs,hb⟩
  | _=>cases h

theorem yB {W':World} (hb:∀ b,b<W.heap.size->W'.heap[b]? = W.heap[b]?) {base:Nat} {a:Addr} {n:Nat} {cs:List Value} (h:W.cells? base a n=some cs):W'.cells? base a n=some cs:=by
 cases n with
 | zero=>unfold World.cells? at h ⊢; simpa using h
 | succ n =>
  obtain ⟨h1,h2⟩:=wW h
  have h3:=h2 0<|by omega
  have hbl:a.block<W.heap.size:=by
   have:=(cell_spot h3).2
   simpa [Addr.add] using this
  have:∀ i,W'.cell? (a.add i)=W.cell? (a.add i):=λi=>World.cell?_of_block<|hb _ (by unfold Addr.add; split <;> exact hbl)
  unfold World.cells? at h ⊢
  simp only [this]; exact h
theorem kZ {α β : Type} {f g : α -> Option β}:∀ {l:List α} {ys:List β},l.mapM f=some ys->(∀ x y,x∈l->y∈ys->f x=some y->g x=some y)->l.mapM g=some ys
 | [],ys,h,_=>Zo
 | a::l,ys,h,hfg=>by
  simp only [List.mapM_cons,Option.bind_eq_bind,Option.bind_eq_some_iff,Option.pure_def,Option.some.injEq] at h
  obtain ⟨y,h1,zs,h2,rfl⟩:=h
  simp only [List.mapM_cons,Option.bind_eq_bind,Option.bind_eq_some_iff,Option.pure_def,Option.some.injEq]
  exact ⟨y,hfg a y (by simp) (by simp) h1,zs,kZ h2 λx z hx hz=>hfg x z (by simp [hx]) (by simp [hz]),Z⟩
theorem tu {W' : World} (hb : ∀ b, b < W.heap.size -> W'.heap[b]? = W.heap[b]?) {L : List TypeId} (hL : JL P L = true) : ∀ (n : Nat) (t : TypeId) (cs : List Value) (x : DataW H × List MemPlace), t ∈ L -> DataW.trod enc P W 0 (λ_ => true) held n t cs = some x ->
  (∀ p∈x.2,sp p.block=true)->DataW.trod enc P W' 0 sp held n t cs=some x
 | 0,t,cs,x,ht,h,_=>by simp [DataW.trod] at h
 | n + 1, t, cs, x, ht, h, hsp => by
  have hcl:=List.all_eq_true.1 hL t ht
  cases hu:P.underlying t with
  | none=>rw [hu] at hcl; cases hcl
  | some d =>
   rw [hu] at hcl
   cases d with
   | int k =>
    obtain ⟨q,rfl,rfl,h3⟩:=DataW.trod_int hu h
    simp [DataW.trod,hu,h3]
   | bool =>
    obtain ⟨q,rfl,rfl⟩:=DataW.trod_bool hu h
    simp [DataW.trod,hu]
   | string =>
    obtain ⟨q,rfl,rfl,h3⟩:=DataW.trod_string hu h
    simp [DataW.trod,hu,h3]
   | slice e =>
    simp only [Bool.and_eq_true] at hcl
    have he:e∈L:=by simpa using hcl.1
    have hp:1≤P.cellsOf e:=Nat.le_of_ble_eq_true hcl.2
    rcases DataW.trod_slice hu h with ⟨rfl,rfl⟩ | ⟨a,len,cap,_,_,_,_,rfl,_⟩
    ·simp [DataW.trod,hu]
    ·unfold DataW.trod at h ⊢
     rw [hu] at h ⊢
     simp only at h ⊢
     split at h
     ·rename_i hcond
      rw [if_pos hcond]
      simp only [if_true,Option.bind_eq_some_iff,Option.map_eq_some_iff] at h
      obtain ⟨elems,h1,rest,h2,rfl⟩:=h
      simp only [List.mem_append,List.mem_flatMap] at hsp
      have hstep:∀ i y,y∈elems++rest->(W.cells? 0 (a.add (i * P.cellsOf e))<|P.cellsOf e).bind (DataW.trod enc P W 0 (λ_=>true) held n e)=some y->(W'.cells? 0 (a.add (i * P.cellsOf e))<|P.cellsOf e).bind (DataW.trod enc P W' 0 sp held n e)=some y:=λi y hy hb'=>by
       rw [Option.bind_eq_some_iff] at hb' ⊢
       obtain ⟨us,g1,g2⟩:=hb'
       exact ⟨us,yB hb g1,tu hb hL n e us y he g2 λp hp'=>hsp p<|.inr ⟨y,List.mem_append.1 hy,hp'⟩⟩
      have e1:(List.range len).mapM (λi=>(W'.cells? 0 (a.add (i * P.cellsOf e))<|P.cellsOf e).bind<|DataW.trod enc P W' 0 sp held n e)=some elems:=kZ h1 λi y _ hy g=>hstep i y (List.mem_append_left _ hy) g
      have e2:(List.range (cap - len)).mapM (λj=>(W'.cells? 0 (a.add ((len+j) * P.cellsOf e))<|P.cellsOf e).bind<|DataW.trod enc P W' 0 sp held n e)=some rest:=kZ h2 λi y _ hy g=>hstep (len+i) y (List.mem_append_right _ hy) g
      rw [e1]
      simp only [Option.bind_some]
      by_cases hs:sp a.block=true
      ·rw [if_pos hs,e2]; rfl
      ·rw [if_neg hs]
       have hr : rest = [] := by
        cases rest with
        | nil=>rfl
        | cons y ys =>
         exfalso
         apply hs
         have:=hsp (MemPlace.cell a.block a.off)<|.inl ?_
         ·exact this
         ·unfold MemPlace.row
          refine List.mem_map.2 ⟨0,?_,by simp [Addr.add]⟩
          rw [List.mem_range]
          simp only [List.length_cons]
          exact Nat.mul_pos (by omega)<|by omega
       subst hr; rfl
     ·cases h
   | struct gs =>
    rw [List.all_eq_true] at hcl
    unfold DataW.trod at h ⊢
    rw [hu] at h ⊢
    simp only at h ⊢
    split at h
    ·rename_i hl
     rw [if_pos hl]
     rw [Option.map_eq_some_iff] at h ⊢
     obtain ⟨xs,h1,rfl⟩:=h
     refine ⟨xs,kZ h1 λg y hg hy h2=>?_,Z⟩
     exact tu hb hL n g.type _ y (by simpa using hcl g hg) h2 λp hp=>hsp p<|List.mem_flatMap.2 ⟨y,hy,hp⟩
    ·cases h
   | _=>cases hcl
mutual
theorem wX {W' : World} (hb : ∀ b, b < W.heap.size -> W'.heap[b]? = W.heap[b]?) : (ty : Ty) -> ∀ (t : TypeId) (n : Nat) (cs : List Value) (x : DataW H × List MemPlace), BB P ty t = true -> DataW.trod enc P W 0 (λ_ => true) held n t cs = some x ->
  (∀ p∈x.2,sp p.block=true)->DataW.trod enc P W' 0 sp held n t cs=some x
 | .int k, t, n, cs, x, hf, h, _ => by
  unfold BB at hf
  cases n with
  | zero=>simp [DataW.trod] at h
  | succ n =>
   cases hu:P.underlying t with
   | none=>rw [hu] at hf; cases hf
   | some d =>
    rw [hu] at hf
    cases d <;> try (cases hf; done)
    obtain ⟨q,rfl,rfl,h3⟩:=DataW.trod_int hu h
    simp [DataW.trod,hu,h3]
 | .bool, t, n, cs, x, hf, h, _ => by
  unfold BB at hf
  cases n with
  | zero=>simp [DataW.trod] at h
  | succ n =>
   cases hu:P.underlying t with
   | none=>rw [hu] at hf; cases hf
   | some d =>
    rw [hu] at hf
    cases d <;> try (cases hf; done)
    obtain ⟨q,rfl,rfl⟩:=DataW.trod_bool hu h
    simp [DataW.trod,hu]
 | .str, t, n, cs, x, hf, h, _ => by
  unfold BB at hf
  cases n with
  | zero=>simp [DataW.trod] at h
  | succ n =>
   cases hu:P.underlying t with
   | none=>rw [hu] at hf; cases hf
   | some d =>
    rw [hu] at hf
    cases d <;> try (cases hf; done)
    obtain ⟨q,rfl,rfl,h3⟩:=DataW.trod_string hu h
    simp [DataW.trod,hu,h3]
 | .slice u, t, n, cs, x, hf, h, hsp => by
  unfold BB at hf
  cases hu:P.underlying t with
  | none=>rw [hu] at hf; cases hf
  | some d =>
   rw [hu] at hf
   cases d <;> try (cases hf; done)
   rename_i e
   simp only [Bool.and_eq_true] at hf
   obtain ⟨⟨hc,hp⟩,he⟩:=hf
   have hc:P.cellsOf e=u.sz:=Nat.eq_of_beq_eq_true hc
   have hp:1≤u.sz:=Nat.le_of_ble_eq_true hp
   cases n with
   | zero=>simp [DataW.trod] at h
   | succ n =>
    rcases DataW.trod_slice hu h with ⟨rfl,rfl⟩ | ⟨a,len,cap,_,_,_,_,rfl,_⟩
    ·simp [DataW.trod,hu]
    ·unfold DataW.trod at h ⊢
     rw [hu] at h ⊢
     simp only at h ⊢
     split at h
     ·rename_i hcond
      rw [if_pos hcond]
      simp only [if_true,Option.bind_eq_some_iff,Option.map_eq_some_iff] at h
      obtain ⟨elems,h1,rest,h2,rfl⟩:=h
      simp only [List.mem_append,List.mem_flatMap] at hsp
      have hstep:∀ i y,y∈elems++rest->(W.cells? 0 (a.add (i * P.cellsOf e))<|P.cellsOf e).bind (DataW.trod enc P W 0 (λ_=>true) held n e)=some y->(W'.cells? 0 (a.add (i * P.cellsOf e))<|P.cellsOf e).bind (DataW.trod enc P W' 0 sp held n e)=some y:=λi y hy hb'=>by
       rw [Option.bind_eq_some_iff] at hb' ⊢
       obtain ⟨us,g1,g2⟩:=hb'
       exact ⟨us,yB hb g1,wX hb u e n us y he g2 λp hp'=>hsp p<|.inr ⟨y,List.mem_append.1 hy,hp'⟩⟩
      have e1:(List.range len).mapM (λi=>(W'.cells? 0 (a.add (i * P.cellsOf e))<|P.cellsOf e).bind<|DataW.trod enc P W' 0 sp held n e)=some elems:=kZ h1 λi y _ hy g=>hstep i y (List.mem_append_left _ hy) g
      have e2:(List.range (cap - len)).mapM (λj=>(W'.cells? 0 (a.add ((len+j) * P.cellsOf e))<|P.cellsOf e).bind<|DataW.trod enc P W' 0 sp held n e)=some rest:=kZ h2 λi y _ hy g=>hstep (len+i) y (List.mem_append_right _ hy) g
      rw [e1]
      simp only [Option.bind_some]
      by_cases hs:sp a.block=true
      ·rw [if_pos hs,e2]; rfl
      ·rw [if_neg hs]
       have hr : rest = [] := by
        cases rest with
        | nil=>rfl
        | cons y ys =>
         exfalso
         apply hs
         have:=hsp (MemPlace.cell a.block a.off)<|.inl ?_
         ·exact this
         ·unfold MemPlace.row
          rw [hc]
          refine List.mem_map.2 ⟨0,?_,by simp [Addr.add]⟩
          rw [List.mem_range]
          simp only [List.length_cons]
          exact Nat.mul_pos (by omega)<|by omega
       subst hr; rfl
     ·cases h
 | .struct fs, t, n, cs, x, hf, h, hsp => by
  unfold BB at hf
  cases hu:P.underlying t with
  | none=>rw [hu] at hf; cases hf
  | some d =>
   rw [hu] at hf
   cases d <;> try (cases hf; done)
   rename_i gs
   simp only [Bool.and_eq_true] at hf
   obtain ⟨hc,hfs⟩:=hf
   cases n with
   | zero=>simp [DataW.trod] at h
   | succ n =>
    unfold DataW.trod at h ⊢
    rw [hu] at h ⊢
    simp only at h ⊢
    split at h
    ·rename_i hl
     rw [if_pos hl]
     rw [Option.map_eq_some_iff] at h ⊢
     obtain ⟨xs,h1,rfl⟩:=h
     refine ⟨xs,?_,Z⟩
     exact Aa hb fs gs.toList 0 n cs xs hfs h1 λy hy p hp=>hsp p<|List.mem_flatMap.2 ⟨y,hy,hp⟩
    ·cases h
 | .any k L,t,n,cs,x,hf,h,hsp=>by
  unfold BB at hf
  simp only [Bool.and_eq_true] at hf
  obtain ⟨⟨⟨hL,ht⟩,_⟩,_⟩:=hf
  exact tu hb hL n t cs x (by simpa using ht) h hsp
theorem Aa {W':World} (hb:∀ b,b<W.heap.size->W'.heap[b]? = W.heap[b]?):(fs:List Ty)->∀ (gs:List Field) (off n:Nat) (cs:List Value) (xs:List (DataW H×List MemPlace)),Cj P fs gs off=true ->
  gs.mapM (λf=>DataW.trod enc P W 0 (λ_=>true) held n f.type<|(cs.drop f.offset).take<|P.cellsOf f.type)=some xs->(∀ y∈xs,∀ p∈y.2,sp p.block=true) ->
  gs.mapM (λf=>DataW.trod enc P W' 0 sp held n f.type<|(cs.drop f.offset).take<|P.cellsOf f.type)=some xs
 | [],[],off,n,cs,xs,hf,h,_=>Zo
 | [],g::gs,off,n,cs,xs,hf,h,_=>by simp [Cj] at hf
 | t::ts,[],off,n,cs,xs,hf,h,_=>by simp [Cj] at hf
 | t::ts,g::gs,off,n,cs,xs,hf,h,hsp=>by
  unfold Cj at hf
  simp only [Bool.and_eq_true] at hf
  obtain ⟨⟨⟨h1,h2⟩,h3⟩,h4⟩:=hf
  simp only [List.mapM_cons,Option.bind_eq_bind,Option.bind_eq_some_iff,Option.pure_def,Option.some.injEq] at h ⊢
  obtain ⟨y,g1,zs,g2,rfl⟩:=h
  exact ⟨y,wX hb t g.type n _ y h3 g1 (hsp y<|by simp),zs,Aa hb ts gs (off+t.sz) n cs zs h4 g2 λz hz=>hsp z (by simp [hz]),Z⟩
end
end
theorem wY (W:World):Holds W [old W]:=⟨λ_ _=>rfl,λ_ _ h=>h,trivial⟩
structure Kept (W w':World):Prop extends Same W w' where
 block:∀ b,b<W.heap.size->w'.heap[b]? = W.heap[b]?
theorem Kept.frame {W w':World} (h:Kept W w') (may:MemPlace->Prop):W.keptBut w' may:=by
 refine ⟨h.os,h.output,λi hi=>?_⟩
 rw [h.block i hi]
 cases hq:W.heap[i]? with
 | none=>rfl
 | some o=>cases o <;> first | exact ⟨rfl,rfl,rfl,λ_ _=>rfl⟩ | exact Or.inr ⟨rfl,rfl⟩ | rfl
def fitAll (P:Program):List Ty->List TypeId->Bool
 | [],[]=>true
 | t::ts,u::us=>BB P t u && fitAll P ts us
 | _,_=>false
section
variable {H:Type} {enc:TypeId×Value->H} {P:Program} {W W':World} {sp:Nat->Bool}
theorem Cn (hb:∀ b,b<W.heap.size->W'.heap[b]? = W.heap[b]?):∀ {tys:List Ty} {ts:List TypeId} {vs:List Value} {ds:List (DataW H)} {ps:List MemPlace},fitAll P tys ts=true->DataW.TrodAll enc P W 0 (λ_=>true) true ts vs ds ps->(∀ p∈ps,sp p.block=true) ->
  DataW.TrodAll enc P W' 0 sp true ts vs ds ps
 | [],[],[],[],ps,_,h,_=>h
 | [],[],[],_::_,ps,_,h,_=>h.elim
 | [],[],_::_,_,ps,_,h,_=>h.elim
 | [],_::_,_,_,_,hf,_,_=>by simp [fitAll] at hf
 | _::_,[],_,_,_,hf,_,_=>by simp [fitAll] at hf
 | ty::tys,t::ts,[],_,ps,_,h,_=>h.elim
 | ty::tys,t::ts,_::_,[],ps,_,h,_=>h.elim
 | ty::tys,t::ts,v::vs,d::ds,ps,hf,h,hp=>by
  unfold fitAll at hf
  rw [Bool.and_eq_true] at hf
  obtain ⟨p,q,⟨n,h1⟩,h2,rfl⟩:=h
  exact ⟨p,q,⟨n,wX hb ty t n _ _ hf.1 h1 λx hx=>hp x<|List.mem_append_left _ hx⟩,Cn hb hf.2 h2 λx hx=>hp x (List.mem_append_right _ hx),Z⟩
theorem Ie {t:TypeId} {v:Value} {b:Nat} (hs:(match P.underlying t with | some (.struct _) | some (.array _ _)=>false | some _=>true | none=>false)=true) (h:Value.okWide P W .any b t v):v.oneCell'=true:=by
 unfold Value.okWide at h
 cases hu:P.underlying t with
 | none=>rw [hu] at hs; cases hs
 | some d =>
  rw [hu] at h hs
  cases d <;> first
   | (cases hs; done)
   | (cases v <;> first | rfl | (unfold Cell.okWide at h; rw [hu] at h; simp only [Cell.ok,hu] at h))
end
end Go.Ck
namespace Go.Proofs.YtknmacdbffgjgaaGreatDoor
open Go.Ck
namespace Fx
theorem mixed:Tryz.prog.follows .mixedOrders=true:=Zz
theorem sz3:Sz Tryz.prog 3 1:=λ_=>Zz
theorem sz4:Sz Tryz.prog 4 1:=λ_=>Zz
theorem sz9:Sz Tryz.prog 9 1:=λ_=>Zz
theorem sz24:Sz Tryz.prog 24 2:=λ_=>Zz
theorem wZ:Sz Tryz.prog 26 8:=λ_=>Zz
theorem DV:Sz Tryz.prog 29 1:=λ_=>Zz
theorem yU:Sz Tryz.prog 40 1:=λ_=>Zz
theorem sz42:Sz Tryz.prog 42 1:=λ_=>Zz
theorem lY:Sz Tryz.prog 44 7:=λ_=>Zz
theorem sz52:Sz Tryz.prog 52 1:=λ_=>Zz
theorem mW:Sz Tryz.prog 53 1:=λ_=>Zz
theorem Ab:Sz Tryz.prog 55 4:=λ_=>Zz
theorem E9:Sz Tryz.prog 67 1:=λ_=>Zz
theorem sz69:Sz Tryz.prog 69 2:=λ_=>Zz
theorem sz70:Sz Tryz.prog 70 1:=λ_=>Zz
theorem sz71:Sz Tryz.prog 71 1:=λ_=>Zz
theorem nL:Sz Tryz.prog 73 5:=λ_=>Zz
theorem gP:Sz Tryz.prog 75 14:=λ_=>Zz
theorem r9:Sz Tryz.prog 88 6:=λ_=>Zz
theorem sz111:Sz Tryz.prog 111 2:=λ_=>Zz
theorem sz114:Sz Tryz.prog 114 2:=λ_=>Zz
theorem ja:Sz Tryz.prog 116 12:=λ_=>Zz
theorem jQ:Sz Tryz.prog 130 15:=λ_=>Zz
theorem Co:Sz Tryz.prog 132 6:=λ_=>Zz
theorem Ac:Sz Tryz.prog 143 2:=λ_=>Zz
theorem sz162:Sz Tryz.prog 162 1:=λ_=>Zz
theorem nM:Sz Tryz.prog 164 2:=λ_=>Zz
theorem Fb:Sz Tryz.prog 170 2:=λ_=>Zz
theorem sz188:Sz Tryz.prog 188 1:=λ_=>Zz
theorem mr:Sz Tryz.prog 191 18:=λ_=>Zz
theorem sz206:Sz Tryz.prog 206 12:=λ_=>Zz
theorem sz214:Sz Tryz.prog 214 1:=λ_=>Zz
theorem Ad:Sz Tryz.prog 216 4:=λ_=>Zz
theorem Cr:Sz Tryz.prog 218 5:=λ_=>Zz
theorem sz250:Sz Tryz.prog 250 1:=λ_=>Zz
theorem sz256:Sz Tryz.prog 256 1:=λ_=>Zz
theorem sz265:Sz Tryz.prog 265 1:=λ_=>Zz
theorem sz281:Sz Tryz.prog 281 1:=λ_=>Zz
theorem ve:SlE Tryz.prog 22 44 7:=⟨Tryz.underlying22,lY⟩
theorem sl32:SlE Tryz.prog 32 55 4:=⟨Tryz.underlying32,Ab⟩
theorem sl38:SlE Tryz.prog 38 111 2:=⟨Tryz.underlying38,sz111⟩
theorem oL:SlE Tryz.prog 39 88 6:=⟨Tryz.underlying39,r9⟩
theorem jm:SlE Tryz.prog 40 9 1:=⟨Tryz.underlying40,sz9⟩
theorem sl41:SlE Tryz.prog 41 130 15:=⟨Tryz.underlying41,jQ⟩
theorem Ff:SlE Tryz.prog 42 218 5:=⟨Tryz.underlying42,Cr⟩
theorem oM:SlE Tryz.prog 52 75 14:=⟨Tryz.underlying52,gP⟩
theorem sl53:SlE Tryz.prog 53 170 2:=⟨Tryz.underlying53,Fb⟩
theorem oN:SlE Tryz.prog 67 69 2:=⟨Tryz.underlying67,sz69⟩
theorem sl70:SlE Tryz.prog 70 132 6:=⟨Tryz.underlying70,Co⟩
theorem yV:SlE Tryz.prog 71 73 5:=⟨Tryz.underlying71,nL⟩
theorem sl86:SlE Tryz.prog 86 143 2:=⟨Tryz.underlying86,Ac⟩
theorem sl104:SlE Tryz.prog 104 24 2:=⟨Tryz.underlying104,sz24⟩
theorem lF:SlE Tryz.prog 187 191 18:=⟨Tryz.underlying187,mr⟩
theorem Cs:SlE Tryz.prog 214 216 4:=⟨Tryz.underlying214,Ad⟩
theorem sl282:SlE Tryz.prog 282 281 1:=⟨Tryz.underlying282,sz281⟩
theorem sl312:SlE Tryz.prog 312 53 1:=⟨Tryz.underlying312,mW⟩
theorem sl325:SlE Tryz.prog 325 40 1:=⟨Tryz.underlying325,yU⟩
theorem sl333:SlE Tryz.prog 333 3 1:=⟨Tryz.underlying333,sz3⟩
theorem pY:MpS Tryz.prog 112 9 55:=⟨Tryz.underlying112,Tryz.underlying9⟩
theorem gJ:MpS Tryz.prog 162 9 3:=⟨Tryz.underlying162,Tryz.underlying9⟩
theorem sI:MpS Tryz.prog 188 9 187:=⟨Tryz.underlying188,Tryz.underlying9⟩
theorem mp250:MpT Tryz.prog 250 3 4:=⟨Tryz.underlying250,Tryz.underlying3⟩
theorem yC:MpS Tryz.prog 265 9 4:=⟨Tryz.underlying265,Tryz.underlying9⟩
theorem nN:Inf Tryz.prog 3 (.int .i64 0) 1 8:=by unfold Inf; kernel_rfl
theorem inf4:Inf Tryz.prog 4 (.bool false) 1 1:=by unfold Inf; kernel_rfl
theorem fH:Inf Tryz.prog 9 (.string ⟨#[]⟩) 1 16:=by unfold Inf; kernel_rfl
theorem JM:Inf Tryz.prog 24 (.agg #[.string ⟨#[]⟩,.string ⟨#[]⟩]) 2 32:=by unfold Inf; kernel_rfl
theorem inf40:Inf Tryz.prog 40 (.slice none 0 0) 1 24:=by unfold Inf; kernel_rfl
theorem inf44:Inf Tryz.prog 44 (.agg #[.string ⟨#[]⟩,.bool false,.slice none 0 0,.slice none 0 0,.slice none 0 0,.slice none 0 0,.slice none 0 0]) 7 144:=by unfold Inf; kernel_rfl
theorem sJ:Inf Tryz.prog 53 (.slice none 0 0) 1 24:=by unfold Inf; kernel_rfl
theorem p8:Inf Tryz.prog 55 (.agg #[.string ⟨#[]⟩,.bool false,.slice none 0 0,.slice none 0 0]) 4 72:=by unfold Inf; kernel_rfl
theorem Cu:Inf Tryz.prog 69 (.agg #[.string ⟨#[]⟩,.string ⟨#[]⟩]) 2 32:=by unfold Inf; kernel_rfl
theorem JN:Inf Tryz.prog 73 (.agg #[.int .i64 0,.string ⟨#[]⟩,.slice none 0 0,.bool false,.bool false]) 5 56:=by unfold Inf; kernel_rfl
theorem vg:Inf Tryz.prog 75 (.agg #[.string ⟨#[]⟩,.int .i64 0,.slice none 0 0,.string ⟨#[]⟩,.string ⟨#[]⟩,.slice none 0 0,.int .i64 0,.string ⟨#[]⟩,.slice none 0 0,.bool false,.bool false,.slice none 0 0,.slice none 0 0,.slice none 0 0]) 14 232:=by unfold Inf; kernel_rfl
theorem inf88:Inf Tryz.prog 88 (.agg #[.string ⟨#[]⟩,.slice none 0 0,.slice none 0 0,.slice none 0 0,.slice none 0 0,.slice none 0 0]) 6 136:=by unfold Inf; kernel_rfl
theorem inf111:Inf Tryz.prog 111 (.agg #[.string ⟨#[]⟩,.string ⟨#[]⟩]) 2 32:=by unfold Inf; kernel_rfl
theorem M4:Inf Tryz.prog 130 (.agg #[.int .i64 0,.string ⟨#[]⟩,.slice none 0 0,.slice none 0 0,.int .i64 0,.string ⟨#[]⟩,.slice none 0 0,.bool false,.bool false,.slice none 0 0,.slice none 0 0,.slice none 0 0,.slice none 0 0,.slice none 0 0,.bool false]) 15 256:=by unfold Inf; kernel_rfl
theorem DW:Inf Tryz.prog 132 (.agg #[.string ⟨#[]⟩,.int .i64 0,.string ⟨#[]⟩,.slice none 0 0,.bool false,.bool false]) 6 72:=by unfold Inf; kernel_rfl
theorem inf143:Inf Tryz.prog 143 (.agg #[.string ⟨#[]⟩,.string ⟨#[]⟩]) 2 32:=by unfold Inf; kernel_rfl
theorem mX:Inf Tryz.prog 170 (.agg #[.string ⟨#[]⟩,.slice none 0 0]) 2 40:=by unfold Inf; kernel_rfl
theorem tC:Inf Tryz.prog 187 (.slice none 0 0) 1 24:=by unfold Inf; kernel_rfl
theorem Ae:Inf Tryz.prog 191 (.agg #[.string ⟨#[]⟩,.string ⟨#[]⟩,.int .i64 0,.string ⟨#[]⟩,.int .i64 0,.slice none 0 0,.string ⟨#[]⟩,.string ⟨#[]⟩,.slice none 0 0,.int .i64 0,.string ⟨#[]⟩,.slice none 0 0,.bool false,.bool false,.slice none 0 0,.slice none 0 0,.slice none 0 0,.int .i64 0]) 18 280:=by unfold Inf; kernel_rfl
theorem M5:Inf Tryz.prog 216 (.agg #[.int .i64 0,.string ⟨#[]⟩,.int .i64 0,.slice none 0 0]) 4 56:=by unfold Inf; kernel_rfl
theorem M6:Inf Tryz.prog 218 (.agg #[.string ⟨#[]⟩,.int .i64 0,.string ⟨#[]⟩,.int .i64 0,.slice none 0 0]) 5 72:=by unfold Inf; kernel_rfl
theorem inf281:Inf Tryz.prog 281 (.nilFunc) 1 8:=by unfold Inf; kernel_rfl
theorem ld3:Ld1 Tryz.prog 3:=Ld1.of Tryz.underlying3 rfl
theorem ld4:Ld1 Tryz.prog 4:=Ld1.of Tryz.underlying4 rfl
theorem ld9:Ld1 Tryz.prog 9:=Ld1.of Tryz.underlying9 rfl
theorem Af:Ld1 Tryz.prog 22:=Ld1.of Tryz.underlying22 rfl
theorem qm:LdN Tryz.prog 24 2:=LdN.of Tryz.underlying24 sz24
theorem tF:LdN Tryz.prog 26 8:=LdN.of Tryz.underlying26 wZ
theorem BC:Ld1 Tryz.prog 29:=Ld1.of Tryz.underlying29 rfl
theorem ld38:Ld1 Tryz.prog 38:=Ld1.of Tryz.underlying38 rfl
theorem lZ:Ld1 Tryz.prog 39:=Ld1.of Tryz.underlying39 rfl
theorem fI:Ld1 Tryz.prog 40:=Ld1.of Tryz.underlying40 rfl
theorem yX:Ld1 Tryz.prog 41:=Ld1.of Tryz.underlying41 rfl
theorem tH:Ld1 Tryz.prog 42:=Ld1.of Tryz.underlying42 rfl
theorem gG:LdN Tryz.prog 44 7:=LdN.of Tryz.underlying44 lY
theorem tJ:Ld1 Tryz.prog 52:=Ld1.of Tryz.underlying52 rfl
theorem qo:Ld1 Tryz.prog 53:=Ld1.of Tryz.underlying53 rfl
theorem Fg:LdN Tryz.prog 55 4:=LdN.of Tryz.underlying55 Ab
theorem nO:Ld1 Tryz.prog 67:=Ld1.of Tryz.underlying67 rfl
theorem il:LdN Tryz.prog 69 2:=LdN.of Tryz.underlying69 sz69
theorem qJ:Ld1 Tryz.prog 70:=Ld1.of Tryz.underlying70 rfl
theorem oO:Ld1 Tryz.prog 71:=Ld1.of Tryz.underlying71 rfl
theorem fU:LdN Tryz.prog 73 5:=LdN.of Tryz.underlying73 nL
theorem eU:LdN Tryz.prog 75 14:=LdN.of Tryz.underlying75 gP
theorem ld86:Ld1 Tryz.prog 86:=Ld1.of Tryz.underlying86 rfl
theorem qp:LdN Tryz.prog 88 6:=LdN.of Tryz.underlying88 r9
theorem JO:LdN Tryz.prog 111 2:=LdN.of Tryz.underlying111 sz111
theorem p9:Ld1 Tryz.prog 112:=Ld1.of Tryz.underlying112 rfl
theorem gU:LdN Tryz.prog 114 2:=LdN.of Tryz.underlying114 sz114
theorem lG:LdN Tryz.prog 116 12:=LdN.of Tryz.underlying116 ja
theorem nR:LdN Tryz.prog 130 15:=LdN.of Tryz.underlying130 jQ
theorem vz:LdN Tryz.prog 132 6:=LdN.of Tryz.underlying132 Co
theorem qL:LdN Tryz.prog 143 2:=LdN.of Tryz.underlying143 Ac
theorem kE:Ld1 Tryz.prog 162:=Ld1.of Tryz.underlying162 rfl
theorem kF:LdN Tryz.prog 164 2:=LdN.of Tryz.underlying164 nM
theorem qM:LdN Tryz.prog 170 2:=LdN.of Tryz.underlying170 Fb
theorem ld186:Ld1 Tryz.prog 186:=Ld1.of Tryz.underlying186 rfl
theorem qN:Ld1 Tryz.prog 188:=Ld1.of Tryz.underlying188 rfl
theorem gV:LdN Tryz.prog 191 18:=LdN.of Tryz.underlying191 mr
theorem ld197:Ld1 Tryz.prog 197:=Ld1.of Tryz.underlying197 rfl
theorem fC:LdN Tryz.prog 206 12:=LdN.of Tryz.underlying206 sz206
theorem sO:Ld1 Tryz.prog 214:=Ld1.of Tryz.underlying214 rfl
theorem jR:LdN Tryz.prog 216 4:=LdN.of Tryz.underlying216 Ad
theorem yD:LdN Tryz.prog 218 5:=LdN.of Tryz.underlying218 Cr
theorem ld229:Ld1 Tryz.prog 229:=Ld1.of Tryz.underlying229 rfl
theorem ld249:Ld1 Tryz.prog 249:=Ld1.of Tryz.underlying249 rfl
theorem ld250:Ld1 Tryz.prog 250:=Ld1.of Tryz.underlying250 rfl
theorem ld256:Ld1 Tryz.prog 256:=Ld1.of Tryz.underlying256 rfl
theorem ld265:Ld1 Tryz.prog 265:=Ld1.of Tryz.underlying265 rfl
theorem ld281:Ld1 Tryz.prog 281:=Ld1.of Tryz.underlying281 rfl
theorem M7:Fa Tryz.prog 26 1 1:=λ_ _ _=>Zz
theorem DX:Fa Tryz.prog 26 3 3:=λ_ _ _=>Zz
theorem dN:Fa Tryz.prog 44 0 0:=λ_ _ _=>Zz
theorem M8:Fa Tryz.prog 44 1 1:=λ_ _ _=>Zz
theorem DY:Fa Tryz.prog 44 2 2:=λ_ _ _=>Zz
theorem eY:Fa Tryz.prog 44 3 3:=λ_ _ _=>Zz
theorem fa44_4:Fa Tryz.prog 44 4 4:=λ_ _ _=>Zz
theorem kv:Fa Tryz.prog 44 5 5:=λ_ _ _=>Zz
theorem M9:Fa Tryz.prog 44 6 6:=λ_ _ _=>Zz
theorem w9:Fa Tryz.prog 55 0 0:=λ_ _ _=>Zz
theorem qO:Fa Tryz.prog 55 2 2:=λ_ _ _=>Zz
theorem xe:Fa Tryz.prog 55 3 3:=λ_ _ _=>Zz
theorem xg:Fa Tryz.prog 69 0 0:=λ_ _ _=>Zz
theorem xh:Fa Tryz.prog 69 1 1:=λ_ _ _=>Zz
theorem qP:Fa Tryz.prog 73 0 0:=λ_ _ _=>Zz
theorem Ag:Fa Tryz.prog 73 1 1:=λ_ _ _=>Zz
theorem iN:Fa Tryz.prog 73 2 2:=λ_ _ _=>Zz
theorem oP:Fa Tryz.prog 73 3 3:=λ_ _ _=>Zz
theorem oQ:Fa Tryz.prog 73 4 4:=λ_ _ _=>Zz
theorem eB:Fa Tryz.prog 75 0 0:=λ_ _ _=>Zz
theorem Ah:Fa Tryz.prog 75 1 1:=λ_ _ _=>Zz
theorem dX:Fa Tryz.prog 75 2 2:=λ_ _ _=>Zz
theorem DZ:Fa Tryz.prog 75 3 3:=λ_ _ _=>Zz
theorem jH:Fa Tryz.prog 75 4 5:=λ_ _ _=>Zz
theorem qQ:Fa Tryz.prog 75 5 6:=λ_ _ _=>Zz
theorem Na:Fa Tryz.prog 75 6 11:=λ_ _ _=>Zz
theorem iO:Fa Tryz.prog 75 7 12:=λ_ _ _=>Zz
theorem iP:Fa Tryz.prog 75 8 13:=λ_ _ _=>Zz
theorem gH:Fa Tryz.prog 88 0 0:=λ_ _ _=>Zz
theorem xk:Fa Tryz.prog 88 1 1:=λ_ _ _=>Zz
theorem Ai:Fa Tryz.prog 88 2 2:=λ_ _ _=>Zz
theorem xn:Fa Tryz.prog 88 3 3:=λ_ _ _=>Zz
theorem xq:Fa Tryz.prog 88 4 4:=λ_ _ _=>Zz
theorem Aj:Fa Tryz.prog 88 5 5:=λ_ _ _=>Zz
theorem JP:Fa Tryz.prog 111 0 0:=λ_ _ _=>Zz
theorem JQ:Fa Tryz.prog 114 0 0:=λ_ _ _=>Zz
theorem iJ:Fa Tryz.prog 114 1 1:=λ_ _ _=>Zz
theorem gL:Fa Tryz.prog 116 0 0:=λ_ _ _=>Zz
theorem D5:Fa Tryz.prog 116 1 2:=λ_ _ _=>Zz
theorem JR:Fa Tryz.prog 116 2 3:=λ_ _ _=>Zz
theorem vB:Fa Tryz.prog 116 3 11:=λ_ _ _=>Zz
theorem vC:Fa Tryz.prog 130 0 0:=λ_ _ _=>Zz
theorem oU:Fa Tryz.prog 130 1 1:=λ_ _ _=>Zz
theorem JS:Fa Tryz.prog 130 2 2:=λ_ _ _=>Zz
theorem rQ:Fa Tryz.prog 130 3 3:=λ_ _ _=>Zz
theorem zg:Fa Tryz.prog 130 4 4:=λ_ _ _=>Zz
theorem zh:Fa Tryz.prog 130 6 10:=λ_ _ _=>Zz
theorem zi:Fa Tryz.prog 130 7 11:=λ_ _ _=>Zz
theorem JU:Fa Tryz.prog 132 0 0:=λ_ _ _=>Zz
theorem mD:Fa Tryz.prog 132 1 1:=λ_ _ _=>Zz
theorem zk:Fa Tryz.prog 143 0 0:=λ_ _ _=>Zz
theorem JV:Fa Tryz.prog 143 1 1:=λ_ _ _=>Zz
theorem D6:Fa Tryz.prog 164 0 0:=λ_ _ _=>Zz
theorem D7:Fa Tryz.prog 164 1 1:=λ_ _ _=>Zz
theorem zl:Fa Tryz.prog 170 0 0:=λ_ _ _=>Zz
theorem rR:Fa Tryz.prog 170 1 1:=λ_ _ _=>Zz
theorem jo:Fa Tryz.prog 191 0 0:=λ_ _ _=>Zz
theorem zm:Fa Tryz.prog 191 1 2:=λ_ _ _=>Zz
theorem dS:Fa Tryz.prog 191 2 3:=λ_ _ _=>Zz
theorem fa191_3:Fa Tryz.prog 191 3 17:=λ_ _ _=>Zz
theorem D8:Fa Tryz.prog 206 0 0:=λ_ _ _=>Zz
theorem gM:Fa Tryz.prog 206 1 2:=λ_ _ _=>Zz
theorem mE:Fa Tryz.prog 206 2 9:=λ_ _ _=>Zz
theorem oV:Fa Tryz.prog 206 3 10:=λ_ _ _=>Zz
theorem oW:Fa Tryz.prog 206 4 11:=λ_ _ _=>Zz
theorem zn:Fa Tryz.prog 216 0 0:=λ_ _ _=>Zz
theorem zo:Fa Tryz.prog 216 1 1:=λ_ _ _=>Zz
theorem zq:Fa Tryz.prog 216 2 2:=λ_ _ _=>Zz
theorem jq:Fa Tryz.prog 216 3 3:=λ_ _ _=>Zz
theorem zt:Fa Tryz.prog 218 0 0:=λ_ _ _=>Zz
theorem oZ:Fa Tryz.prog 218 1 1:=λ_ _ _=>Zz
theorem al4:Al Tryz.prog 4 [.bool false]:=λ_=>Zz
theorem al24:Al Tryz.prog 24 [.string ⟨#[]⟩,.string ⟨#[]⟩]:=λ_=>Zz
theorem D9:Al Tryz.prog 26 [.int .i64 0,.string ⟨#[]⟩,.string ⟨#[]⟩,.string ⟨#[]⟩,.string ⟨#[]⟩,.string ⟨#[]⟩,.string ⟨#[]⟩,.string ⟨#[]⟩]:=λ_=>Zz
theorem al29:Al Tryz.prog 29 [.int .i64 0]:=λ_=>Zz
theorem al40:Al Tryz.prog 40 [.slice none 0 0]:=λ_=>Zz
theorem nS:Al Tryz.prog 44 [.string ⟨#[]⟩,.bool false,.slice none 0 0,.slice none 0 0,.slice none 0 0,.slice none 0 0,.slice none 0 0]:=λ_=>Zz
theorem Fh:Al Tryz.prog 55 [.string ⟨#[]⟩,.bool false,.slice none 0 0,.slice none 0 0]:=λ_=>Zz
theorem al69:Al Tryz.prog 69 [.string ⟨#[]⟩,.string ⟨#[]⟩]:=λ_=>Zz
theorem Ak:Al Tryz.prog 73 [.int .i64 0,.string ⟨#[]⟩,.slice none 0 0,.bool false,.bool false]:=λ_=>Zz
theorem ji:Al Tryz.prog 75 [.string ⟨#[]⟩,.int .i64 0,.slice none 0 0,.string ⟨#[]⟩,.string ⟨#[]⟩,.slice none 0 0,.int .i64 0,.string ⟨#[]⟩,.slice none 0 0,.bool false,.bool false,.slice none 0 0,.slice none 0 0,.slice none 0 0]:=λ_=>Zz
theorem vD:Al Tryz.prog 88 [.string ⟨#[]⟩,.slice none 0 0,.slice none 0 0,.slice none 0 0,.slice none 0 0,.slice none 0 0]:=λ_=>Zz
theorem al111:Al Tryz.prog 111 [.string ⟨#[]⟩,.string ⟨#[]⟩]:=λ_=>Zz
theorem al114:Al Tryz.prog 114 [.slice none 0 0,.map none]:=λ_=>Zz
theorem nU:Al Tryz.prog 116 [.slice none 0 0,.map none,.slice none 0 0,.int .i64 0,.string ⟨#[]⟩,.string ⟨#[]⟩,.string ⟨#[]⟩,.string ⟨#[]⟩,.string ⟨#[]⟩,.string ⟨#[]⟩,.string ⟨#[]⟩,.int .i64 0]:=λ_=>Zz
theorem lH:Al Tryz.prog 130 [.int .i64 0,.string ⟨#[]⟩,.slice none 0 0,.slice none 0 0,.int .i64 0,.string ⟨#[]⟩,.slice none 0 0,.bool false,.bool false,.slice none 0 0,.slice none 0 0,.slice none 0 0,.slice none 0 0,.slice none 0 0,.bool false]:=λ_=>Zz
theorem JW:Al Tryz.prog 132 [.string ⟨#[]⟩,.int .i64 0,.string ⟨#[]⟩,.slice none 0 0,.bool false,.bool false]:=λ_=>Zz
theorem Fj:Al Tryz.prog 143 [.string ⟨#[]⟩,.string ⟨#[]⟩]:=λ_=>Zz
theorem al162:Al Tryz.prog 162 [.map none]:=λ_=>Zz
theorem sP:Al Tryz.prog 164 [.slice none 0 0,.map none]:=λ_=>Zz
theorem al170:Al Tryz.prog 170 [.string ⟨#[]⟩,.slice none 0 0]:=λ_=>Zz
theorem al188:Al Tryz.prog 188 [.map none]:=λ_=>Zz
theorem qR:Al Tryz.prog 191 [.string ⟨#[]⟩,.string ⟨#[]⟩,.int .i64 0,.string ⟨#[]⟩,.int .i64 0,.slice none 0 0,.string ⟨#[]⟩,.string ⟨#[]⟩,.slice none 0 0,.int .i64 0,.string ⟨#[]⟩,.slice none 0 0,.bool false,.bool false,.slice none 0 0,.slice none 0 0,.slice none 0 0,.int .i64 0]:=λ_=>Zz
theorem al206:Al Tryz.prog 206 [.slice none 0 0,.map none,.string ⟨#[]⟩,.bool false,.slice none 0 0,.slice none 0 0,.slice none 0 0,.slice none 0 0,.slice none 0 0,.slice none 0 0,.map none,.bool false]:=λ_=>Zz
theorem JX:Al Tryz.prog 216 [.int .i64 0,.string ⟨#[]⟩,.int .i64 0,.slice none 0 0]:=λ_=>Zz
theorem JY:Al Tryz.prog 218 [.string ⟨#[]⟩,.int .i64 0,.string ⟨#[]⟩,.int .i64 0,.slice none 0 0]:=λ_=>Zz
theorem al250:Al Tryz.prog 250 [.map none]:=λ_=>Zz
theorem al256:Al Tryz.prog 256 [.nilFunc]:=λ_=>Zz
theorem al265:Al Tryz.prog 265 [.map none]:=λ_=>Zz
theorem en10:Enters Tryz.prog 10:=λ_ _=>Zz
theorem en11:Enters Tryz.prog 11:=λ_ _=>Zz
theorem en12:Enters Tryz.prog 12:=λ_ _=>Zz
theorem en13:Enters Tryz.prog 13:=λ_ _=>Zz
theorem en14:Enters Tryz.prog 14:=λ_ _=>Zz
theorem en15:Enters Tryz.prog 15:=λ_ _=>Zz
theorem en16:Enters Tryz.prog 16:=λ_ _=>Zz
theorem en27:Enters Tryz.prog 27:=λ_ _=>Zz
theorem en28:Enters Tryz.prog 28:=λ_ _=>Zz
theorem en29:Enters Tryz.prog 29:=λ_ _=>Zz
theorem en30:Enters Tryz.prog 30:=λ_ _=>Zz
theorem en31:Enters Tryz.prog 31:=λ_ _=>Zz
theorem en32:Enters Tryz.prog 32:=λ_ _=>Zz
theorem en33:Enters Tryz.prog 33:=λ_ _=>Zz
theorem en34:Enters Tryz.prog 34:=λ_ _=>Zz
theorem en35:Enters Tryz.prog 35:=λ_ _=>Zz
theorem en38:Enters Tryz.prog 38:=λ_ _=>Zz
theorem en40:Enters Tryz.prog 40:=λ_ _=>Zz
theorem en41:Enters Tryz.prog 41:=λ_ _=>Zz
theorem Ea:Enters Tryz.prog 42:=λ_ _=>Zz
theorem en45:Enters Tryz.prog 45:=λ_ _=>Zz
theorem en48:Enters Tryz.prog 48:=λ_ _=>Zz
theorem en49:Enters Tryz.prog 49:=λ_ _=>Zz
theorem en50:Enters Tryz.prog 50:=λ_ _=>Zz
theorem en51:Enters Tryz.prog 51:=λ_ _=>Zz
theorem en52:Enters Tryz.prog 52:=λ_ _=>Zz
theorem en53:Enters Tryz.prog 53:=λ_ _=>Zz
theorem en54:Enters Tryz.prog 54:=λ_ _=>Zz
theorem en55:Enters Tryz.prog 55:=λ_ _=>Zz
theorem en56:Enters Tryz.prog 56:=λ_ _=>Zz
theorem en57:Enters Tryz.prog 57:=λ_ _=>Zz
theorem en58:Enters Tryz.prog 58:=λ_ _=>Zz
theorem en59:Enters Tryz.prog 59:=λ_ _=>Zz
theorem en60:Enters Tryz.prog 60:=λ_ _=>Zz
theorem en61:Enters Tryz.prog 61:=λ_ _=>Zz
theorem en62:Enters Tryz.prog 62:=λ_ _=>Zz
theorem en63:Enters Tryz.prog 63:=λ_ _=>Zz
theorem en64:Enters Tryz.prog 64:=λ_ _=>Zz
theorem en73:Enters Tryz.prog 73:=λ_ _=>Zz
theorem en91:Enters Tryz.prog 91:=λ_ _=>Zz
theorem en92:Enters Tryz.prog 92:=λ_ _=>Zz
theorem en93:Enters Tryz.prog 93:=λ_ _=>Zz
theorem en94:Enters Tryz.prog 94:=λ_ _=>Zz
theorem en95:Enters Tryz.prog 95:=λ_ _=>Zz
theorem en96:Enters Tryz.prog 96:=λ_ _=>Zz
theorem en97:Enters Tryz.prog 97:=λ_ _=>Zz
theorem en98:Enters Tryz.prog 98:=λ_ _=>Zz
theorem en99:Enters Tryz.prog 99:=λ_ _=>Zz
theorem en100:Enters Tryz.prog 100:=λ_ _=>Zz
theorem en101:Enters Tryz.prog 101:=λ_ _=>Zz
theorem Fp:Enters Tryz.prog 102:=λ_ _=>Zz
theorem en103:Enters Tryz.prog 103:=λ_ _=>Zz
theorem en104:Enters Tryz.prog 104:=λ_ _=>Zz
theorem en109:Enters Tryz.prog 109:=λ_ _=>Zz
theorem en110:Enters Tryz.prog 110:=λ_ _=>Zz
theorem yE:Enters Tryz.prog 111:=λ_ _=>Zz
theorem en112:Enters Tryz.prog 112:=λ_ _=>Zz
theorem JZ:Enters Tryz.prog 113:=λ_ _=>Zz
theorem J2:Enters Tryz.prog 114:=λ_ _=>Zz
theorem J3:Enters Tryz.prog 115:=λ_ _=>Zz
theorem en116:Enters Tryz.prog 116:=λ_ _=>Zz
theorem en117:Enters Tryz.prog 117:=λ_ _=>Zz
theorem en118:Enters Tryz.prog 118:=λ_ _=>Zz
theorem en119:Enters Tryz.prog 119:=λ_ _=>Zz
theorem en120:Enters Tryz.prog 120:=λ_ _=>Zz
theorem en121:Enters Tryz.prog 121:=λ_ _=>Zz
theorem en122:Enters Tryz.prog 122:=λ_ _=>Zz
theorem en123:Enters Tryz.prog 123:=λ_ _=>Zz
theorem en124:Enters Tryz.prog 124:=λ_ _=>Zz
theorem J4:Enters Tryz.prog 126:=λ_ _=>Zz
theorem en128:Enters Tryz.prog 128:=λ_ _=>Zz
theorem en129:Enters Tryz.prog 129:=λ_ _=>Zz
theorem en130:Enters Tryz.prog 130:=λ_ _=>Zz
theorem en131:Enters Tryz.prog 131:=λ_ _=>Zz
theorem en132:Enters Tryz.prog 132:=λ_ _=>Zz
theorem en133:Enters Tryz.prog 133:=λ_ _=>Zz
theorem en134:Enters Tryz.prog 134:=λ_ _=>Zz
theorem en135:Enters Tryz.prog 135:=λ_ _=>Zz
theorem en136:Enters Tryz.prog 136:=λ_ _=>Zz
theorem en137:Enters Tryz.prog 137:=λ_ _=>Zz
theorem en138:Enters Tryz.prog 138:=λ_ _=>Zz
theorem en139:Enters Tryz.prog 139:=λ_ _=>Zz
theorem en140:Enters Tryz.prog 140:=λ_ _=>Zz
theorem en141:Enters Tryz.prog 141:=λ_ _=>Zz
theorem en142:Enters Tryz.prog 142:=λ_ _=>Zz
theorem en143:Enters Tryz.prog 143:=λ_ _=>Zz
theorem en144:Enters Tryz.prog 144:=λ_ _=>Zz
theorem en145:Enters Tryz.prog 145:=λ_ _=>Zz
theorem en146:Enters Tryz.prog 146:=λ_ _=>Zz
theorem en147:Enters Tryz.prog 147:=λ_ _=>Zz
theorem en148:Enters Tryz.prog 148:=λ_ _=>Zz
theorem en149:Enters Tryz.prog 149:=λ_ _=>Zz
theorem en150:Enters Tryz.prog 150:=λ_ _=>Zz
theorem en151:Enters Tryz.prog 151:=λ_ _=>Zz
theorem en153:Enters Tryz.prog 153:=λ_ _=>Zz
theorem en160:Enters Tryz.prog 160:=λ_ _=>Zz
theorem en163:Enters Tryz.prog 163:=λ_ _=>Zz
theorem en166:Enters Tryz.prog 166:=λ_ _=>Zz
theorem en167:Enters Tryz.prog 167:=λ_ _=>Zz
theorem en168:Enters Tryz.prog 168:=λ_ _=>Zz
theorem en169:Enters Tryz.prog 169:=λ_ _=>Zz
theorem en170:Enters Tryz.prog 170:=λ_ _=>Zz
theorem en171:Enters Tryz.prog 171:=λ_ _=>Zz
theorem en172:Enters Tryz.prog 172:=λ_ _=>Zz
theorem en173:Enters Tryz.prog 173:=λ_ _=>Zz
theorem J5:Enters Tryz.prog 174:=λ_ _=>Zz
theorem en175:Enters Tryz.prog 175:=λ_ _=>Zz
theorem en176:Enters Tryz.prog 176:=λ_ _=>Zz
theorem en177:Enters Tryz.prog 177:=λ_ _=>Zz
theorem Fq:Enters Tryz.prog 178:=λ_ _=>Zz
theorem en182:Enters Tryz.prog 182:=λ_ _=>Zz
theorem en183:Enters Tryz.prog 183:=λ_ _=>Zz
theorem en184:Enters Tryz.prog 184:=λ_ _=>Zz
theorem en185:Enters Tryz.prog 185:=λ_ _=>Zz
theorem en186:Enters Tryz.prog 186:=λ_ _=>Zz
theorem en187:Enters Tryz.prog 187:=λ_ _=>Zz
theorem en188:Enters Tryz.prog 188:=λ_ _=>Zz
theorem en189:Enters Tryz.prog 189:=λ_ _=>Zz
theorem en190:Enters Tryz.prog 190:=λ_ _=>Zz
theorem en191:Enters Tryz.prog 191:=λ_ _=>Zz
theorem en192:Enters Tryz.prog 192:=λ_ _=>Zz
theorem en193:Enters Tryz.prog 193:=λ_ _=>Zz
theorem en194:Enters Tryz.prog 194:=λ_ _=>Zz
theorem Fs:Enters Tryz.prog 195:=λ_ _=>Zz
theorem qf:Enters Tryz.prog 196:=λ_ _=>Zz
theorem en197:Enters Tryz.prog 197:=λ_ _=>Zz
theorem en199:Enters Tryz.prog 199:=λ_ _=>Zz
theorem en200:Enters Tryz.prog 200:=λ_ _=>Zz
theorem en203:Enters Tryz.prog 203:=λ_ _=>Zz
theorem jS:Enters Tryz.prog 204:=λ_ _=>Zz
theorem en205:Enters Tryz.prog 205:=λ_ _=>Zz
theorem J6:Enters Tryz.prog 206:=λ_ _=>Zz
theorem en207:Enters Tryz.prog 207:=λ_ _=>Zz
theorem en208:Enters Tryz.prog 208:=λ_ _=>Zz
theorem en209:Enters Tryz.prog 209:=λ_ _=>Zz
theorem en210:Enters Tryz.prog 210:=λ_ _=>Zz
theorem en211:Enters Tryz.prog 211:=λ_ _=>Zz
theorem en212:Enters Tryz.prog 212:=λ_ _=>Zz
theorem en213:Enters Tryz.prog 213:=λ_ _=>Zz
theorem J7:Enters Tryz.prog 214:=λ_ _=>Zz
theorem en215:Enters Tryz.prog 215:=λ_ _=>Zz
theorem en216:Enters Tryz.prog 216:=λ_ _=>Zz
theorem en217:Enters Tryz.prog 217:=λ_ _=>Zz
theorem en218:Enters Tryz.prog 218:=λ_ _=>Zz
theorem en219:Enters Tryz.prog 219:=λ_ _=>Zz
theorem en220:Enters Tryz.prog 220:=λ_ _=>Zz
theorem en221:Enters Tryz.prog 221:=λ_ _=>Zz
theorem en222:Enters Tryz.prog 222:=λ_ _=>Zz
theorem en223:Enters Tryz.prog 223:=λ_ _=>Zz
theorem en224:Enters Tryz.prog 224:=λ_ _=>Zz
theorem en225:Enters Tryz.prog 225:=λ_ _=>Zz
theorem en226:Enters Tryz.prog 226:=λ_ _=>Zz
theorem en227:Enters Tryz.prog 227:=λ_ _=>Zz
theorem en228:Enters Tryz.prog 228:=λ_ _=>Zz
theorem en229:Enters Tryz.prog 229:=λ_ _=>Zz
theorem en231:Enters Tryz.prog 231:=λ_ _=>Zz
theorem en235:Enters Tryz.prog 235:=λ_ _=>Zz
theorem en236:Enters Tryz.prog 236:=λ_ _=>Zz
theorem en237:Enters Tryz.prog 237:=λ_ _=>Zz
theorem en241:Enters Tryz.prog 241:=λ_ _=>Zz
theorem Fu:Enters Tryz.prog 242:=λ_ _=>Zz
theorem en244:Enters Tryz.prog 244:=λ_ _=>Zz
theorem en245:Enters Tryz.prog 245:=λ_ _=>Zz
theorem en246:Enters Tryz.prog 246:=λ_ _=>Zz
theorem en247:Enters Tryz.prog 247:=λ_ _=>Zz
theorem en248:Enters Tryz.prog 248:=λ_ _=>Zz
theorem en260:Enters Tryz.prog 260:=λ_ _=>Zz
theorem en261:Enters Tryz.prog 261:=λ_ _=>Zz
theorem en262:Enters Tryz.prog 262:=λ_ _=>Zz
theorem en263:Enters Tryz.prog 263:=λ_ _=>Zz
theorem en264:Enters Tryz.prog 264:=λ_ _=>Zz
theorem en265:Enters Tryz.prog 265:=λ_ _=>Zz
theorem en266:Enters Tryz.prog 266:=λ_ _=>Zz
theorem en267:Enters Tryz.prog 267:=λ_ _=>Zz
theorem en268:Enters Tryz.prog 268:=λ_ _=>Zz
theorem en269:Enters Tryz.prog 269:=λ_ _=>Zz
theorem en270:Enters Tryz.prog 270:=λ_ _=>Zz
theorem en271:Enters Tryz.prog 271:=λ_ _=>Zz
theorem en272:Enters Tryz.prog 272:=λ_ _=>Zz
theorem en278:Enters Tryz.prog 278:=λ_ _=>Zz
theorem en279:Enters Tryz.prog 279:=λ_ _=>Zz
theorem en280:Enters Tryz.prog 280:=λ_ _=>Zz
theorem en294:Enters Tryz.prog 294:=λ_ _=>Zz
theorem en296:Enters Tryz.prog 296:=λ_ _=>Zz
theorem en297:Enters Tryz.prog 297:=λ_ _=>Zz
end Fx
end Go.Proofs.YtknmacdbffgjgaaGreatDoor
namespace Go.Ck
open Go Go.RowKit

def OpenRow (v:Value) (sz n:Nat) (l:List Value) (b cp:Nat) (j:List Value):Prop:=v = .slice (some ⟨b,0,none⟩) n cp/\l.length=n * sz/\n≤cp/\cp≤maxLen/\(l++j).length=cp * sz
section
variable {c:Cx} {Q:Exit->Act->World->Prop} {e:Env} {h h':SH} {x:Code} {v:Value} {E:TypeId} {sz n:Nat} {l l':List Value}
end
end Go.Ck
namespace Go.Hr
open Go
inductive Kt
 | mk (kind:Int) (name:Nm) (args:List Kt) (void sep:Bool)
namespace Kt
def kind:Kt->Int | .mk k _ _ _ _=>k
def name:Kt->Nm | .mk _ n _ _ _=>n
def args:Kt->List Kt | .mk _ _ az _ _=>az
def void:Kt->Bool | .mk _ _ _ v _=>v
def sep:Kt->Bool | .mk _ _ _ _ s=>s
theorem ext {t u:Kt} (h1:t.kind=u.kind) (h2:t.name=u.name) (h3:t.args=u.args) (h4:t.void=u.void) (h5:t.sep=u.sep):t=u:=by
 cases t; cases u; simp only [kind,name,args,void,sep] at *; subst h1 h2 h3 h4 h5; rfl
end Kt
mutual
def Kt.same:Kt->Kt->Bool
 | .mk k n az v s,.mk k' n' az' v' s'=>k == k' && n == n' && v == v' && s == s' && Am az az'
def Am:List Kt->List Kt->Bool
 | [],[]=>true
 | a::t,b::u=>a.same b && Am t u
 | [],_::_=>false
 | _::_,[]=>false
end
mutual
theorem same_iff:∀ (a b:Kt),a.same b=true↔a=b
 | .mk k n az v s,.mk k' n' az' v' s'=>by
  simp only [Kt.same,Bool.and_eq_true,beq_iff_eq,Cv az az',Kt.mk.injEq]
  constructor
  ·rintro ⟨⟨⟨⟨h1,h2⟩,h3⟩,h4⟩,h5⟩; exact ⟨h1,h2,h5,h3,h4⟩
  ·rintro ⟨h1,h2,h5,h3,h4⟩; exact ⟨⟨⟨⟨h1,h2⟩,h3⟩,h4⟩,h5⟩
theorem Cv:∀ (a b:List Kt),Am a b=true↔a=b
 | [],[]=>by simp [Am]
 | a::t,b::u=>by simp only [Am,Bool.and_eq_true,same_iff a b,Cv t u,List.cons.injEq]
 | [],_::_=>by simp [Am]
 | _::_,[]=>by simp [Am]
end
instance:DecidableEq Kt:=λa b=>decidable_of_iff _ (same_iff a b)
mutual
def Kt.depth:Kt->Nat
 | .mk _ _ az _ _=>Ao az+1
def Ao:List Kt->Nat
 | []=>0
 | a::t=>max a.depth (Ao t)
end
theorem o5:∀ {l:List Kt} {t:Kt},t∈l->t.depth≤Ao l
 | a::l,t,h=>by
  unfold Ao
  rcases List.mem_cons.1 h with rfl | h
  ·omega
  ·have:=o5 h; omega
theorem jI {t a:Kt} (h:a∈t.args):a.depth<t.depth:=by
 cases t
 have:=o5 h
 simp only [Kt.args] at this
 show a.depth<Ao _+1; omega
mutual
def Kt.parts:Kt->Nat
 | .mk _ _ az _ _=>1+Nb az
def Nb:List Kt->Nat
 | []=>0
 | a::t=>a.parts+Nb t
end
structure Fm where
 name:Nm
 bound:Nm
def Eb (F:List Fm) (n:Nm):Option Nat:=F.findIdx? λf=>f.name == n
def Kt.flag (t:Kt) (v s:Bool):Kt:=.mk t.kind t.name t.args (t.void || v) (t.sep || s)
def Kt.with (t:Kt) (v s:Bool):Kt:=.mk t.kind t.name t.args v s
def nX (F:List Fm) (A:List Kt) (n:Nm):Option Kt:=(Eb F n).bind λi=>A[i]?
mutual
def Kt.subst (F:List Fm) (A:List Kt):Kt->Kt
 | .mk k n az v s=>if k=4 then (match nX F A n with | some t=>t.flag v s | none=>.mk k n az v s) else if k=3 then .mk k n (Ec F A az) v s else .mk k n az v s
def Ec (F:List Fm) (A:List Kt):List Kt->List Kt
 | []=>[]
 | a::t=>a.subst F A::Ec F A t
end
section
variable {F G:List Fm} {A B:List Kt}
theorem Ap:∀ (l:List Kt),Ec F A l=l.map (Kt.subst F A)
 | []=>rfl
 | a::t=>by rw [Ec,Ap t]; rfl
theorem Ed {n:Nm} {az:List Kt} {v s:Bool}:Kt.subst F A (.mk 4 n az v s)=(match nX F A n with | some t=>t.flag v s | none=>.mk 4 n az v s):=by
 rw [Kt.subst,if_pos rfl]
theorem Fv {n:Nm} {az:List Kt} {v s:Bool}:Kt.subst F A (.mk 3 n az v s) = .mk 3 n (az.map (Kt.subst F A)) v s:=by
 rw [Kt.subst,if_neg (by decide),if_pos rfl,Ap]
inductive Cl (F:List Fm) (m:Nat):Kt->Prop
 | fml {n:Nm} {v s:Bool} {i:Nat}:Eb F n=some i->i<m->Cl F m (.mk 4 n [] v s)
 | cls {n:Nm} {az:List Kt} {v s:Bool}:(∀ a∈az,Cl F m a)->Cl F m (.mk 3 n az v s)
theorem Ig {n:Nm} {i:Nat} (h:Eb F n=some i) (hi:i<A.length):nX F A n=some A[i]:=by
 unfold nX; rw [h,Option.bind_some,List.getElem?_eq_getElem hi]
theorem Cl.subst {t:Kt} {m:Nat} (h:Cl G B.length t) (hB:∀ b∈B,Cl F m b):Cl F m (t.subst G B):=by
 induction h with
 | @fml n v s i hi hl =>
  rw [Ed,Ig hi hl]
  have:=hB B[i]<|List.getElem_mem hl
  generalize B[i]=b at this
  cases this with
  | fml h1 h2=>exact .fml h1 h2
  | cls h1=>exact .cls h1
 | @cls n az v s _ ih =>
  rw [Fv]
  refine .cls λa ha=>?_
  obtain ⟨a',h1,rfl⟩:=List.mem_map.1 ha
  exact ih a' h1
def ownT (F:List Fm):List Kt:=F.map λf=>.mk 4 f.name [] false false
end
end Go.Hr
namespace Go.Ck
open Go Go.RowKit

/-! ## Rows that are read -/
def Row {α : Type} (S:Res) (sz:Nat) (X:List Value -> α -> Prop) (v:Value) (l:List α):Prop :=
 ∃ a cap,v = .slice a l.length cap/\l.length≤cap/\cap≤maxLen/\(a=none->cap=0)/\∀ i x,l[i]? = some x->∃ b o us,a=some ⟨b,o,none⟩/\us.length=sz/\Rds S b (o+i * sz) us/\X us x
section
variable {α : Type} {S S':Res} {sz:Nat} {X X':List Value -> α -> Prop} {v:Value} {l:List α}
theorem Row.mono (h:Row S sz X v l) (hr:∀ p u,Rd S p u->Rd S' p u) (hx:∀ us x,x∈l->X us x->X' us x):Row S' sz X' v l:=by
 obtain ⟨a,cap,h1,h2,h3,h4,h5⟩:=h
 refine ⟨a,cap,h1,h2,h3,h4,λi x hi=>?_⟩
 obtain ⟨b,o,us,g1,g2,g3,g4⟩:=h5 i x hi
 exact ⟨b,o,us,g1,g2,λj hj=>hr _ _ (g3 j hj),hx _ _ (List.mem_of_getElem? hi) g4⟩
theorem Row.nil:Row S sz X (.slice none 0 0) []:=⟨none,0,rfl,Nat.le_refl _,Nat.zero_le _,λ_=>rfl,λi x h=>by simp at h⟩
theorem Row.at (h:Row S sz X v l) {i:Nat} {x : α} (hi:l[i]? = some x):∃ b o cap us,v = .slice (some ⟨b,o,none⟩) l.length cap/\us.length=sz/\Rds S b (o+i * sz) us/\X us x:=by
 obtain ⟨a,cap,h1,h2,h3,h4,h5⟩:=h
 obtain ⟨b,o,us,g1,g2,g3,g4⟩:=h5 i x hi
 exact ⟨b,o,cap,us,by rw [h1,g1],g2,g3,g4⟩
theorem Row.one (h:Row S sz X v l):v.oneCell'=true:=by obtain ⟨a,cap,rfl,_⟩:=h; rfl
end
theorem Row.at1 {α : Type} {S:Res} {X:List Value -> α -> Prop} {v:Value} {l:List α} (h:Row S 1 X v l) {i:Nat} {x : α} (hi:l[i]? = some x):∃ b o cap u,v = .slice (some ⟨b,o,none⟩) l.length cap/\Rd S ⟨b,o+i * 1,none⟩ u/\X [u] x:=by
 obtain ⟨b,o,cap,us,h1,h2,h3,h4⟩:=h.at hi
 match us,h2 with
 | [u],_=>exact ⟨b,o,cap,u,h1,by simpa using h3 0 (by simp),h4⟩
theorem qU {r:Res} {b o k:Nat} {us:List Value} {v:Value} (h:Rds r b o us) (hv:us[k]? = some v):Rd r ⟨b,o+k,none⟩ v:=by
 obtain ⟨hk,hv⟩:=List.getElem?_eq_some_iff.1 hv
 subst hv; exact h k hk
theorem bF {r:Res} {b o k:Nat} {us vs:List Value} (h:Rds r b o us) (hv:(us.drop k).take vs.length=vs):Rds r b (o+k) vs:=λi hi=>by
 have h1:us[k+i]? = some vs[i]:=by
  have:vs[i]? = some vs[i]:=Zy hi
  rw [<- this,<- hv,List.getElem?_take,if_pos (by have:=congrArg List.length hv; simp at this; omega),List.getElem?_drop]
 rw [Nat.add_assoc]; exact qU h h1
theorem bE {k:SH} {r:Res} {k':SH} (s:Sel k r k') (p:Addr) (v:Value) (h:Rd r p v):Rd (Res.star k) p v:=oH s h

/-! ## Contracts over many resources as one -/
theorem bW {w:World} {L hr:SH}:Holds w (Res.star L::hr)↔Holds w (L++hr):=dx
theorem dF {P:Program} {k:FuncId} {args:Array Value} {L:SH} {v:Value} (h:Reads P k args [Res.star L] v):Reads P k args L v:=λhr w hh =>
 (h hr w<|bW.2 hh).mono λ_ _ ⟨u,h',he,⟨hu,hh'⟩,hH,hS⟩=>⟨u,L,he,⟨hu,rfl⟩,by subst hh'; exact bW.1 hH,hS⟩
theorem lg {P:Program} {k:FuncId} {args:Array Value} {L:SH} {v:Value} (h:Reads P k args L v):Reads P k args [Res.star L] v:=λhr w hh =>
 (h hr w<|bW.1 hh).mono λ_ _ ⟨u,h',he,⟨hu,hh'⟩,hH,hS⟩=>⟨u,_,he,⟨hu,rfl⟩,by subst hh'; exact bW.2 hH,hS⟩
def CtN (P:Program) (k:FuncId) (args:Array Value) (hf:SH) (Q:Value->Res->Prop):Prop:=Ct P k args hf λu h'=>∃ T,h'=T::hf/\Q u T
theorem jT {P:Program} {k:FuncId} {args:Array Value} {L:SH} {Q:Value->Res->Prop} (h:CtN P k args [Res.star L] Q):CtN P k args L Q:=λhr w hh =>
 (h hr w<|bW.2 hh).mono λ_ _ ⟨u,h',he,⟨T,hT,hQ⟩,hH,hS⟩=>⟨u,T::L,he,⟨T,rfl,hQ⟩,by
  subst hT
  have h1:Holds _ (T::Res.star L::hr):=hH
  have h2:Holds _ (Res.star L::T::hr):=h1.perm<|.swap _ _ _
  exact (bW.1 h2).perm List.perm_middle,hS⟩
theorem CtN.mono {P:Program} {k:FuncId} {args:Array Value} {hf:SH} {Q Q':Value->Res->Prop} (h:CtN P k args hf Q) (hq:∀ u T,Q u T->Q' u T):CtN P k args hf Q':=Ct.mono h λ_ _ ⟨T,h1,h2⟩=>⟨T,h1,hq _ _ h2⟩

/-! ## Rows that are owned -/
def VR (v:Value) (E:TypeId) (sz:Nat) (rows:List (List Value)):Res where
 dom b:=∃ o m cp,v = .slice (some ⟨b,o,none⟩) m cp
 ok f:=(∀ r∈rows,r.length=sz)/\((v = .slice none 0 0/\rows=[])∨∃ b o cp pre j,v = .slice (some ⟨b,o,none⟩) rows.length cp/\f b=some (cl (pre++(rows.flatten++j)) E)/\pre.length=o/\rows.length≤cp/\cp≤maxLen/\cp * sz≤(rows.flatten++j).length)
 loc f g he:=λ⟨h1,h2⟩=>⟨h1,h2.imp id λ⟨b,o,cp,pre,j,hv,hb,hr⟩=>⟨b,o,cp,pre,j,hv,by rw [<- he b ⟨o,_,cp,hv⟩]; exact hb,hr⟩⟩
 pres f:=λ⟨_,h2⟩ b ⟨o,m,cp,hv⟩=>by
  rcases h2 with ⟨h3,_⟩ | ⟨b',o',cp',pre,j,h3,hb,_⟩
  ·rw [h3] at hv; cases hv
  ·rw [h3] at hv; cases hv; rw [hb]; rfl
section
variable {v:Value} {E:TypeId} {sz:Nat} {rows:List (List Value)} {f:Nat->Option Obj}
theorem VR.form (h:(VR v E sz rows).ok f):(v = .slice none 0 0/\rows=[])∨∃ b o cp,v = .slice (some ⟨b,o,none⟩) rows.length cp/\rows.length≤cp/\cp≤maxLen:=by
 rcases h.2 with h | ⟨b,o,cp,_,_,h1,_,_,h2,h3,_⟩
 ·exact .inl h
 ·exact .inr ⟨b,o,cp,h1,h2,h3⟩
theorem VR.one (h:(VR v E sz rows).ok f):v.oneCell'=true:=by rcases VR.form h with ⟨rfl,_⟩ | ⟨_,_,_,rfl,_⟩ <;> rfl
theorem VR.nil:(VR (.slice none 0 0) E sz []).ok f:=⟨by simp,.inl ⟨rfl,rfl⟩⟩
theorem o6 {rows:List (List Value)} {sz m k:Nat} {r:List Value} {x:Value} (h:∀ r∈rows,r.length=sz) (hm:rows[m]? = some r) (hk:r[k]? = some x):rows.flatten[m * sz+k]? = some x:=by
 induction rows generalizing m with
 | nil=>simp at hm
 | cons q t ih =>
  have hq:=h q<|by simp
  cases m with
  | zero =>
   simp only [List.getElem?_cons_zero,Option.some.injEq] at hm
   subst hm
   rw [List.flatten_cons,Nat.zero_mul,Nat.zero_add,List.getElem?_append_left (List.getElem?_eq_some_iff.1 hk).1]; exact hk
  | succ m =>
   rw [List.getElem?_cons_succ] at hm
   rw [List.flatten_cons,List.getElem?_append_right (by rw [hq,Nat.succ_mul]; omega),hq,<- ih (λr hr=>h r<|by simp [hr]) hm]
   congr 1
   rw [Nat.succ_mul]; omega
theorem jb {rows:List (List Value)} {sz:Nat} (h:∀ r∈rows,r.length=sz):rows.flatten.length=rows.length * sz:=by
 induction rows with
 | nil=>simp
 | cons q t ih=>rw [List.flatten_cons,List.length_append,h q (by simp),ih (λr hr=>h r (by simp [hr])),List.length_cons,Nat.succ_mul]; omega
theorem Fy {rows:List (List Value)} {sz j:Nat} {x:Value} (h:∀ r∈rows,r.length=sz) (hj:rows.flatten[j]? = some x):∃ m k r,j=m * sz+k/\rows[m]? = some r/\r[k]? = some x:=by
 induction rows generalizing j with
 | nil=>simp at hj
 | cons q t ih =>
  have hq:=h q<|by simp
  rw [List.flatten_cons] at hj
  by_cases hjq:j<q.length
  ·rw [List.getElem?_append_left hjq] at hj
   exact ⟨0,j,q,by simp,Z,hj⟩
  ·rw [List.getElem?_append_right (by omega)] at hj
   obtain ⟨m,k,r,h1,h2,h3⟩:=ih (λr hr=>h r<|by simp [hr]) hj
   exact ⟨m+1,k,r,by rw [Nat.succ_mul]; omega,h2,h3⟩
theorem Row.cells {α : Type} {S : Res} {X : List Value -> α -> Prop} {a : Option Addr} {n cp : Nat} : ∀ {l : List α}, Row S sz X (.slice a n cp) l -> ∃ rows : List (List Value), rows.length = l.length /\ (∀ r ∈ rows, r.length = sz) /\ (∀ (i : Nat) us x, rows[i]? = some us -> l[i]? = some x -> X us x) /\
  ∀ j u,rows.flatten[j]? = some u->∃ b o,a=some ⟨b,o,none⟩/\Rd S ⟨b,o+j,none⟩ u:=λ{l} h=>by
 obtain ⟨a',cap,h1,_,_,_,h5⟩:=h
 cases h1
 have key : ∀ (k : Nat), k ≤ l.length -> ∃ rows : List (List Value), rows.length = k /\ ∀ (i : Nat) us, rows[i]? = some us -> ∃ x b o, l[i]? = some x /\ a = some ⟨b, o, none⟩ /\ us.length = sz /\ Rds S b (o + i * sz) us /\ X us x := by
  intro k
  induction k with
  | zero=>exact λ_=>⟨[],rfl,λi us h=>by simp at h⟩
  | succ k ih =>
   intro hk
   obtain ⟨rows,g1,g2⟩:=ih<|by omega
   obtain ⟨b,o,us,e1,e2,e3,e4⟩:=h5 k l[k]<|Zy<|by omega
   refine ⟨rows++[us],by simp [g1],λi us' hi=>?_⟩
   by_cases hik:i<rows.length
   ·rw [List.getElem?_append_left hik] at hi; exact g2 i us' hi
   ·rw [List.getElem?_append_right (by omega)] at hi
    have hi0:i - rows.length=0:=by
     have:=(List.getElem?_eq_some_iff.1 hi).1
     simp at this; omega
    rw [hi0] at hi
    simp only [List.getElem?_cons_zero,Option.some.injEq] at hi
    subst hi
    have:i=k:=by omega
    subst this
    exact ⟨l[i],b,o,Zy (by omega),e1,e2,e3,e4⟩
 obtain ⟨rows,g1,g2⟩:=key l.length<|Nat.le_refl _
 have hsz:∀ r∈rows,r.length=sz:=λr hr=>by
  obtain ⟨i,hi,rfl⟩:=List.mem_iff_getElem.1 hr
  obtain ⟨_,_,_,_,_,e2,_⟩:=g2 i _<|Zy hi
  exact e2
 refine ⟨rows,g1,hsz,λi us x hi hx=>?_,λj u hj=>?_⟩
 ·obtain ⟨x',b,o,e0,_,_,_,e4⟩:=g2 i us hi
  rw [hx] at e0; cases e0; exact e4
 ·obtain ⟨m,k,r,rfl,e1,e2⟩:=Fy hsz hj
  obtain ⟨x,b,o,_,e3,e4,e5,_⟩:=g2 m r e1
  exact ⟨b,o,e3,by have:=qU e5 e2; rwa [Nat.add_assoc] at this⟩
theorem eQ {b o n cp m:Nat} {r:List Value} (hm:rows[m]? = some r):Rds (VR (.slice (some ⟨b,o,none⟩) n cp) E sz rows) b (o+m * sz) r:=λi hi w hw=>by
 obtain ⟨h1,h2⟩:=hw
 rcases h2 with ⟨h3,_⟩ | ⟨b',o',cp',pre,j,h3,hb,hp,_⟩
 ·cases h3
 ·cases h3
  have hb':w.heap[b]? = _:=hb
  have h4:=o6 h1 hm<|Zy hi
  have hlt:=(List.getElem?_eq_some_iff.1 h4).1
  simp only [World.cell?,hb',cl,List.getElem?_toArray,Option.isSome_none,Bool.false_eq_true,if_false]
  rw [List.getElem?_append_right (by omega),hp,show o+m * sz+i - o=m * sz+i by omega,List.getElem?_append_left hlt,h4]
theorem Nc {α : Type} {X:List Value -> α -> Prop} {l:List α} {S:Res} (hok:∃ f,(VR v E sz rows).ok f) (hl:rows.length=l.length) (hr:∀ p u,Rd (VR v E sz rows) p u->Rd S p u) (hx:∀ (i:Nat) us x,rows[i]? = some us->l[i]? = some x->X us x):Row S sz X v l:=by
 obtain ⟨f,hf⟩:=hok
 rcases VR.form hf with ⟨rfl,h1⟩ | ⟨b,o,cp,rfl,h1,h2⟩
 ·have hl0:l=[]:=List.eq_nil_of_length_eq_zero (by rw [<- hl,h1]; rfl)
  subst hl0; exact Row.nil
 ·refine ⟨some ⟨b,o,none⟩,cp,by rw [hl],by omega,h2,(λh=>by cases h),λi x hi=>?_⟩
  have hlt:i<rows.length:=by rw [hl]; exact (List.getElem?_eq_some_iff.1 hi).1
  have hri:rows[i]? = some rows[i]:=Zy hlt
  exact ⟨b,o,rows[i],Z,hf.1 _ (List.getElem_mem hlt),λj hj=>hr _ _ (eQ hri j hj),hx i _ _ hri hi⟩
end

/-! ### What is done to them -/
section
variable {w:World} {v:Value} {E:TypeId} {sz:Nat} {rows:List (List Value)} {h:SH}
theorem Holds.vr_nil (hh:Holds w h) (E:TypeId) (sz:Nat):Holds w (VR (.slice none 0 0) E sz []::h):=⟨VR.nil,(λ_ ⟨_,_,_,hv⟩=>by cases hv),hh⟩
theorem Holds.vr_take {b o n cp m:Nat} (hh:Holds w (VR (.slice (some ⟨b,o,none⟩) n cp) E sz rows::h)) (hm:m≤rows.length) :
  Holds w (VR (.slice (some ⟨b,o,none⟩) m cp) E sz (rows.take m)::h):=by
 obtain ⟨⟨h1,h2⟩,hd,ht⟩:=hh
 rcases h2 with ⟨h3,_⟩ | ⟨b',o',cp',pre,j,h3,hb,hp,hc1,hc2,hc3⟩
 ·cases h3
 ·cases h3
  have hsp:rows.flatten=(rows.take m).flatten++(rows.drop m).flatten:=by rw [<- List.flatten_append,List.take_append_drop]
  refine ⟨⟨λq hq=>h1 q (List.mem_of_mem_take hq),.inr ⟨b,o,cp,pre,(rows.drop m).flatten++j,by rw [List.length_take,Nat.min_eq_left hm],by rw [hb,hsp,List.append_assoc],hp,by rw [List.length_take]; omega,hc2,?_⟩⟩,λc ⟨o',m',cp',hv⟩=>?_,ht⟩
  ·rw [<- List.append_assoc,<- hsp]; exact hc3
  ·cases hv; exact hd _ ⟨_,_,_,rfl⟩
theorem Holds.vr_of {b n:Nat} {cells:List Value} (hh:Holds w (pt b (cl cells E)::h)) (hc:cells=rows.flatten) (h1:∀ r∈rows,r.length=sz) (hn:rows.length=n) (hm:n≤maxLen):Holds w (VR (.slice (some ⟨b,0,none⟩) n n) E sz rows::h):=by
 subst hn hc
 refine ⟨⟨h1,.inr ⟨b,0,_,[],[],Z,?_,Z,Nat.le_refl _,hm,by rw [List.append_nil,jb h1]; exact Nat.le_refl _⟩⟩,λc ⟨o',m',cp',hv⟩=>?_,hh.2.2⟩
 ·have:=hh.1
  simpa [pt] using this
 ·cases hv; exact hh.2.1 _ rfl

theorem BD {P : Program} {t : TypeId} (ty : TypeId) {z : Value} {bytes : Nat} (ht : P.underlying t = some (.slice E)) (hE : Inf P E z sz bytes) (hzs : z.cells.size = sz) (hsz : 0 < sz)
  (hh:Holds w (VR v E sz rows::h)) {src:Addr} {m cp:Nat} {news:List (List Value)} (hn1:∀ r∈news,r.length=sz) (hl:news.length=m)
  (hnews:∀ j u,news.flatten[j]? = some u->w.cell? (src.add j)=some u) (h1:∀ u∈news.flatten,u.oneCell'=true) (hb:(rows.length+m) * bytes≤140737488355328) (h63:rows.length+m≤9223372036854775807) :
  ∃ v' w',(Builtin.append_ #[t,t] ty #[v,.slice (some src) m cp]).run P w = .ok v' w'/\Holds w' (VR v' E sz (rows++news)::h)/\Same w w'/\(v' = .slice none 0 0↔v = .slice none 0 0/\m=0):=by
 obtain ⟨i,hi,hz,hisz,hiby⟩:=hE.parts
 subst hisz hiby
 have hok:(VR v E i.size rows).ok (hp w):=hh.1
 have hmax:maxLen=9223372036854775807:=rfl
 have hall:∀ r∈rows++news,r.length=i.size:=λr hr=>(List.mem_append.1 hr).elim (hok.1 r)<|hn1 r
 have hnl:news.flatten.length=m * i.size:=by rw [jb hn1,hl]
 have hrl:rows.flatten.length=rows.length * i.size:=jb hok.1
 have newrow : ∀ (old : Nat), old < rows.length + m -> ∀ w1 : World, w1 = w.drew.alloc (.cells (rows.flatten.toArray ++ news.flatten.toArray ++ Builtin.zeroCells z.cells (grownCap w (rows.length + m) old E - (rows.length + m))) E) ->
   Holds w1 (VR (.slice (some ⟨w.heap.size,0,none⟩) (rows.length+m)<|grownCap w (rows.length+m) old E) E i.size (rows++news)::h)/\Same w w1:=by
  intro old ho w1 hw1
  have hge:=grownCap_ge w (rows.length+m) old E
  have hcm:grownCap w (rows.length+m) old E≤maxLen:=grownCap_le_maxLen w (rows.length+m) old E (by rw [hmax]; exact h63)
  have hH:Holds w.drew h:=Holds.grew hh.2.2<|Grew.drawn w _
  have hA:=Holds.alloc hH<|.cells (rows.flatten.toArray++news.flatten.toArray++Builtin.zeroCells z.cells (grownCap w (rows.length+m) old E - (rows.length+m))) E
  have hobj:(Obj.cells (rows.flatten.toArray++news.flatten.toArray++Builtin.zeroCells z.cells (grownCap w (rows.length+m) old E - (rows.length+m))) E)=cl ([]++((rows++news).flatten++(Builtin.zeroCells z.cells (grownCap w (rows.length+m) old E - (rows.length+m))).toList)) E:=by
   simp only [cl,Obj.cells.injEq,and_true]
   apply Array.ext'
   simp
  rw [hobj] at hA
  refine ⟨?_,?_⟩
  ·rw [hw1,hobj]
   refine ⟨⟨hall,.inr ⟨w.heap.size,0,_,[],_,by rw [List.length_append,hl],hA.1,Z,by rw [List.length_append,hl]; exact hge,hcm,?_⟩⟩,λb ⟨o',m',cp',hv⟩=>?_,hA.2.2⟩
   ·have hzl:(Builtin.zeroCells z.cells (grownCap w (rows.length+m) old E - (rows.length+m))).toList.length=(grownCap w (rows.length+m) old E - (rows.length+m)) * i.size:=by rw [Array.length_toList,size_zeroCells,hzs]
    rw [List.length_append,jb hall,List.length_append,hl,hzl,<- Nat.add_mul]
    apply Nat.mul_le_mul_right; omega
   ·cases hv; exact hA.2.1 _ rfl
  ·rw [hw1]; exact (Grew.drawn w _).toSame.trans (Grew.alloc _ _ rfl).toSame
 rcases hok.2 with ⟨rfl,rfl⟩ | ⟨g,o,cap,pre,j,rfl,hg,hpo,hnc,hcm,hcs⟩
 ·by_cases hm:m=0
  ·subst hm
   have hn:news=[]:=List.eq_nil_of_length_eq_zero hl
   subst hn
   refine ⟨.slice none 0 0,w,?_,hh,Same.refl w,by simp⟩
   simp [Builtin.append_,run_underlying ht,sizeOf,typeInfo,hi,Builtin.lenOf,Builtin.firstCells,loadCells,loadCellsFrom]
  ·have hr:=run_append_nil (P:=P) w t ty E i z ht hi hz src m cp news.flatten hnl hnews (by omega) (by simp only [List.length_nil] at h63; omega) (by simp only [List.length_nil,Nat.zero_add] at hb; omega)
   have:=newrow 0 (by omega) _ rfl
   simp only [List.length_nil,Nat.zero_add,List.nil_append,List.flatten_nil,Array.empty_append] at this hr ⊢
   exact ⟨_,_,hr,this.1,this.2,by simp [hm]⟩
 ·have hg' : w.heap[g]? = some (.cells (pre ++ (rows.flatten ++ j)).toArray E (0, 0)) := hg
  by_cases hroom:rows.length+m≤cap
  ·have hfit:o+rows.length * i.size+0+news.flatten.length≤(pre++(rows.flatten++j)).toArray.size:=by
    rw [hnl,List.size_toArray,List.length_append,hpo]
    have:(rows.length+m) * i.size≤cap * i.size:=Nat.mul_le_mul_right _ hroom
    rw [Nat.add_mul] at this
    omega
   have hst:=run_storeCells_at P g (o+rows.length * i.size) E news.flatten 0 _ w hg' hfit h1
   simp only [Nat.add_zero] at hst
   have hfc:=run_firstCells_some (P:=P) w i.size m src m cp news.flatten hnl hnews
   have hr:(Builtin.append_ #[t,t] ty #[.slice (some ⟨g,o,none⟩) rows.length cap,.slice (some src) m cp]).run P w = .ok (.slice (some ⟨g,o,none⟩) (rows.length+m) cap) (w.setRow g ((pre++(rows.flatten++j)).toArray.toList.take (o+rows.length * i.size)++news.flatten++(pre++(rows.flatten++j)).toArray.toList.drop (o+rows.length * i.size+news.flatten.length)).toArray):=by
    simp [Builtin.append_,run_underlying ht,sizeOf,typeInfo,hi,Builtin.lenOf,hroom,hfc,Addr.add_lit,hst]
   have hset:=setRow_heap w g (pre++(rows.flatten++j)).toArray ((pre++(rows.flatten++j)).toArray.toList.take (o+rows.length * i.size)++news.flatten++(pre++(rows.flatten++j)).toArray.toList.drop (o+rows.length * i.size+news.flatten.length)).toArray E (0,0) hg'
   refine ⟨_,_,hr,?_,⟨rfl,rfl,rfl,Nat.le_refl _,by simp,oG (b:=g) (λo ho=>by rw [hg'] at ho; cases ho; rfl) (λo ho=>by rw [hset] at ho; cases ho; rfl) λc hc=>setRow_other w g c _ hc⟩,by simp⟩
   have htk:(pre++(rows.flatten++j)).take (o+rows.length * i.size)=pre++rows.flatten:=by
    rw [<- List.append_assoc,List.take_left' (by rw [List.length_append,hpo,hrl])]
   have hdr:(pre++(rows.flatten++j)).drop (o+rows.length * i.size+news.flatten.length)=j.drop news.flatten.length:=by
    rw [<- List.drop_drop,<- List.append_assoc,List.drop_left' (by rw [List.length_append,hpo,hrl])]
   simp only [htk,hdr] at hset ⊢
   refine ⟨⟨hall,.inr ⟨g,o,cap,pre,j.drop news.flatten.length,by rw [List.length_append,hl],?_,hpo,by rw [List.length_append,hl]; exact hroom,hcm,?_⟩⟩,λb ⟨o',m',cp',hv⟩=>?_,?_⟩
   ·show w.setRow g _ |>.heap[g]? = _
    rw [hset]; simp [cl]
   ·rw [List.length_append,List.length_drop,jb hall,List.length_append,hl,hnl]
    rw [List.length_append,hrl] at hcs
    have h5:(rows.length+m) * i.size≤cap * i.size:=Nat.mul_le_mul_right _ hroom
    rw [Nat.add_mul] at h5 ⊢
    omega
   ·cases hv; exact hh.2.1 _ ⟨_,_,_,rfl⟩
   ·exact bi.loc hh.2.2 λb hb=>(setRow_other w g b _<|λe=>hh.2.1 b ⟨o,rows.length,cap,by rw [e]⟩ hb).symm
  ·have holds:∀ k u,rows.flatten[k]? = some u->w.cell? ((⟨g,o,none⟩:Addr).add k)=some u:=λk u hu=>by
    rw [Addr.add_lit]
    have hlt:=(List.getElem?_eq_some_iff.1 hu).1
    simp only [World.cell?,hg',List.getElem?_toArray,Option.isSome_none,Bool.false_eq_true,if_false]
    rw [List.getElem?_append_right (by omega),hpo,show o+k - o=k by omega,List.getElem?_append_left hlt,hu]
   have hr:=run_append_grow (P:=P) w t ty E i z ht hi hz ⟨g,o,none⟩ rows.length cap rows.flatten hrl holds src m cp news.flatten hnl hnews (by omega) (by omega)<|growslice_fits (by omega) hb
   have:=newrow cap (by omega) _ rfl
   exact ⟨_,_,hr,this.1,this.2,by simp⟩
end
end Go.Ck
