/- Part B00 of the proof of one law of the program. -/
import Derived.Test.YtkmnkiekmlcfdaaGreatDoorA07
set_option linter.all false
namespace Go.Proofs.YtkmnkiekmlcfdaaGreatDoor
open Go.AM
inductive TyD where
 |mk (name:List UInt8) (args:List TyD)
inductive PaD where
 |mk (kind:Int) (name:List UInt8) (args:List PaD)
structure CoD where
 name:List UInt8
 args:List TyD
structure DaD where
 name:List UInt8
 vars:List (List UInt8)
 cons:List CoD
def TyD.name:TyD→List UInt8|.mk n _=>n
def TyD.args:TyD→List TyD|.mk _ as=>as
def PaD.kind:PaD→Int|.mk k _ _=>k
def PaD.name:PaD→List UInt8|.mk _ n _=>n
def PaD.args:PaD→List PaD|.mk _ _ as=>as
mutual
def TyD.enc:TyD→AVal
 |.mk n as=>.agg [.str n,.slice (TyD.encs as)]
def TyD.encs:List TyD→List AVal
 |[]=>[]
 |t::ts=>t.enc::TyD.encs ts
end
mutual
def PaD.enc:PaD→AVal
 |.mk k n as=>.agg [.int .i64 k,.str n,.slice (PaD.encs as)]
def PaD.encs:List PaD→List AVal
 |[]=>[]
 |t::ts=>t.enc::PaD.encs ts
end
def CoD.enc (c:CoD):AVal:=.agg [.str c.name,.slice (TyD.encs c.args)]
def DaD.enc (d:DaD):AVal:=.agg [.str d.name,.slice (d.vars.map .str),.slice (d.cons.map CoD.enc)]
theorem TyD.encs_eq (l:List TyD):TyD.encs l=l.map TyD.enc:=by
 induction l with
 |nil=>simp [TyD.encs]
 |cons t ts ih=>simp [TyD.encs,ih]
theorem PaD.encs_eq (l:List PaD):PaD.encs l=l.map PaD.enc:=by
 induction l with
 |nil=>simp [PaD.encs]
 |cons t ts ih=>simp [PaD.encs,ih]
theorem TyD.enc_mk (n:List UInt8) (as:List TyD):(TyD.mk n as).enc=.agg [.str n,.slice (as.map TyD.enc)]:=by simp [TyD.enc,TyD.encs_eq]
theorem PaD.enc_mk (k:Int) (n:List UInt8) (as:List PaD):(PaD.mk k n as).enc=.agg [.int .i64 k,.str n,.slice (as.map PaD.enc)]:=by simp [PaD.enc,PaD.encs_eq]
theorem TyD.enc_eq (t:TyD):t.enc=.agg [.str t.name,.slice (t.args.map TyD.enc)]:=by cases t;exact TyD.enc_mk _ _
theorem PaD.enc_eq (t:PaD):t.enc=.agg [.int .i64 t.kind,.str t.name,.slice (t.args.map PaD.enc)]:=by cases t;exact PaD.enc_mk _ _ _
theorem CoD.enc_eq (c:CoD):c.enc=.agg [.str c.name,.slice (c.args.map TyD.enc)]:=by simp [CoD.enc,TyD.encs_eq]
mutual
def TyD.size:TyD→Nat
 |.mk n as=>n.length+1+TyD.sizes as
def TyD.sizes:List TyD→Nat
 |[]=>0
 |t::ts=>t.size+1+TyD.sizes ts
end
mutual
def PaD.size:PaD→Nat
 |.mk _ n as=>n.length+1+PaD.sizes as
def PaD.sizes:List PaD→Nat
 |[]=>0
 |t::ts=>t.size+1+PaD.sizes ts
end
theorem TyD.sizes_len (l:List TyD):l.length≤TyD.sizes l:=by
 induction l with
 |nil=>simp [TyD.sizes]
 |cons t ts ih=>simp only[TyD.sizes,List.length_cons];omega
theorem TyD.sizes_mem {t:TyD}:∀ {l:List TyD},t∈l→t.size < TyD.sizes l
 |x::l,h=>by
  simp only[TyD.sizes];rcases List.mem_cons.1 h with h|h
  ·subst h;omega
  ·have:=TyD.sizes_mem h;omega
theorem PaD.sizes_len (l:List PaD):l.length≤PaD.sizes l:=by
 induction l with
 |nil=>simp [PaD.sizes]
 |cons t ts ih=>simp only[PaD.sizes,List.length_cons];omega
theorem PaD.sizes_mem {t:PaD}:∀ {l:List PaD},t∈l→t.size < PaD.sizes l
 |x::l,h=>by
  simp only[PaD.sizes];rcases List.mem_cons.1 h with h|h
  ·subst h;omega
  ·have:=PaD.sizes_mem h;omega
theorem TyD.args_len (t:TyD):t.args.length < t.size:=by
 cases t;simp only[TyD.args,TyD.size];have:=TyD.sizes_len ‹_›;omega
theorem PaD.args_len (t:PaD):t.args.length < t.size:=by
 cases t;simp only[PaD.args,PaD.size];have:=PaD.sizes_len ‹_›;omega
theorem TyD.args_size {t a:TyD} (h:a∈t.args):a.size < t.size:=by
 cases t;simp only[TyD.args] at h;simp only[TyD.size];have:=TyD.sizes_mem h;omega
theorem PaD.args_size {t a:PaD} (h:a∈t.args):a.size < t.size:=by
 cases t;simp only[PaD.args] at h;simp only[PaD.size];have:=PaD.sizes_mem h;omega
theorem TyD.ind {p:TyD→Prop} (h:∀ t,(∀ a∈t.args,p a)→p t):∀ t,p t:=by
 have:∀ n t,t.size < n→p t:=by
  intro n;induction n with
  |zero=>intro t ht;omega
  |succ n ih=>intro t ht;exact h t fun a ha=>ih a (by have:=TyD.args_size ha;omega)
 exact fun t=>this (t.size+1) t (by omega)
theorem PaD.ind {p:PaD→Prop} (h:∀ t,(∀ a∈t.args,p a)→p t):∀ t,p t:=by
 have:∀ n t,t.size < n→p t:=by
  intro n;induction n with
  |zero=>intro t ht;omega
  |succ n ih=>intro t ht;exact h t fun a ha=>ih a (by have:=PaD.args_size ha;omega)
 exact fun t=>this (t.size+1) t (by omega)
def CoD.size (c:CoD):Nat:=c.name.length+1+TyD.sizes c.args
def conSizes:List CoD→Nat
 |[]=>0
 |c::cs=>c.size+1+conSizes cs
def strSizes:List (List UInt8)→Nat
 |[]=>0
 |c::cs=>c.length+1+strSizes cs
def DaD.size (d:DaD):Nat:=d.name.length+1+strSizes d.vars+conSizes d.cons
def datSizes:List DaD→Nat
 |[]=>0
 |c::cs=>c.size+1+datSizes cs
theorem conSizes_len (l:List CoD):l.length≤conSizes l:=by
 induction l with
 |nil=>simp [conSizes]
 |cons t ts ih=>simp only[conSizes,List.length_cons];omega
theorem conSizes_mem {t:CoD}:∀ {l:List CoD},t∈l→t.size < conSizes l
 |x::l,h=>by
  simp only[conSizes];rcases List.mem_cons.1 h with h|h
  ·subst h;omega
  ·have:=conSizes_mem h;omega
theorem strSizes_len (l:List (List UInt8)):l.length≤strSizes l:=by
 induction l with
 |nil=>simp [strSizes]
 |cons t ts ih=>simp only[strSizes,List.length_cons];omega
theorem datSizes_len (l:List DaD):l.length≤datSizes l:=by
 induction l with
 |nil=>simp [datSizes]
 |cons t ts ih=>simp only[datSizes,List.length_cons];omega
theorem datSizes_mem {t:DaD}:∀ {l:List DaD},t∈l→t.size < datSizes l
 |x::l,h=>by
  simp only[datSizes];rcases List.mem_cons.1 h with h|h
  ·subst h;omega
  ·have:=datSizes_mem h;omega
abbrev big:Nat:=4294967296
end Go.Proofs.YtkmnkiekmlcfdaaGreatDoor
